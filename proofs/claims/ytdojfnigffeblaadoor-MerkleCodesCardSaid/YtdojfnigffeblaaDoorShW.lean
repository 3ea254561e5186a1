/- A text of a proof over this seat: walks over the program's functions and the plain laws that they need. -/
import Derived.Test.YtdojfnigffeblaaDoorFwA
import Derived.Test.YtdojfnigffeblaaDoorFwB
import Derived.Test.YtdojfnigffeblaaDoorFwD
import Derived.Test.YtdojfnigffeblaaDoorGuA
set_option linter.all false
section
/- SHA-256 in plain words: what the walks compute, and that it is one thing. -/
namespace Go.Fw
namespace Sha
def kc : List UInt32 := [1116352408, 1899447441, 3049323471, 3921009573, 961987163, 1508970993, 2453635748, 2870763221, 3624381080, 310598401, 607225278, 1426881987, 1925078388, 2162078206, 2614888103, 3248222580, 3835390401, 4022224774, 264347078, 604807628, 770255983, 1249150122, 1555081692, 1996064986, 2554220882, 2821834349, 2952996808, 3210313671, 3336571891, 3584528711, 113926993, 338241895, 666307205, 773529912, 1294757372, 1396182291, 1695183700, 1986661051, 2177026350, 2456956037, 2730485921, 2820302411, 3259730800, 3345764771, 3516065817, 3600352804, 4094571909, 275423344, 430227734, 506948616, 659060556, 883997877, 958139571, 1322822218, 1537002063, 1747873779, 1955562222, 2024104815, 2227730452, 2361852424, 2428436474, 2756734187, 3204031479, 3329325298]
def rotr (x : UInt32) (n : UInt32) : UInt32 := (x >>> n) ||| (x <<< (32 - n))
def word (b : List UInt8) (t : Nat) : UInt32 :=
 ((b.getD (4 * t) 0).toUInt32 <<< 24) ||| ((b.getD (4 * t + 1) 0).toUInt32 <<< 16) ||| ((b.getD (4 * t + 2) 0).toUInt32 <<< 8) ||| (b.getD (4 * t + 3) 0).toUInt32
def s0 (x : UInt32) : UInt32 := rotr x 7 ^^^ rotr x 18 ^^^ (x >>> 3)
def s1 (x : UInt32) : UInt32 := rotr x 17 ^^^ rotr x 19 ^^^ (x >>> 10)
def sch (b : List UInt8) : Nat → List UInt32
 | 0 => []
 | t + 1 => let w := sch b t; w ++ [if t < 16 then word b t else w.getD (t - 16) 0 + s0 (w.getD (t - 15) 0) + w.getD (t - 7) 0 + s1 (w.getD (t - 2) 0)]
abbrev S8 := UInt32 × UInt32 × UInt32 × UInt32 × UInt32 × UInt32 × UInt32 × UInt32
def big1 (e : UInt32) : UInt32 := rotr e 6 ^^^ rotr e 11 ^^^ rotr e 25
def big0 (a : UInt32) : UInt32 := rotr a 2 ^^^ rotr a 13 ^^^ rotr a 22
def rnd (s : S8) (k w : UInt32) : S8 :=
 match s with
 | (a, b, c, d, e, f, g, h) =>
  let x := h + big1 e + ((e &&& f) ^^^ (~~~e &&& g)) + k + w
  let y := big0 a + ((a &&& b) ^^^ (a &&& c) ^^^ (b &&& c))
  (x + y, a, b, c, d + x, e, f, g)
def rounds (ws : List UInt32) (s : S8) : Nat → S8
 | 0 => s
 | t + 1 => rnd (rounds ws s t) (kc.getD t 0) (ws.getD t 0)
def l8 (s : S8) : List UInt32 := match s with | (a, b, c, d, e, f, g, h) => [a, b, c, d, e, f, g, h]
def s8 (l : List UInt32) : S8 := (l.getD 0 0, l.getD 1 0, l.getD 2 0, l.getD 3 0, l.getD 4 0, l.getD 5 0, l.getD 6 0, l.getD 7 0)
def comp (s : List UInt32) (b : List UInt8) : List UInt32 := List.zipWith (· + ·) s (l8 (rounds (sch b 64) (s8 s) 64))
def init : List UInt32 := [0x6a09e667, 0xbb67ae85, 0x3c6ef372, 0xa54ff53a, 0x510e527f, 0x9b05688c, 0x1f83d9ab, 0x5be0cd19]
structure Stm where
 st : List UInt32
 bl : List UInt8
 n : UInt64
def addB (s : Stm) (c : UInt8) : Stm :=
 let bl := s.bl.set (s.n.toNat % 64) c
 { st := if s.n.toNat % 64 = 63 then comp s.st bl else s.st, bl := bl, n := s.n + 1 }
def adds (s : Stm) (t : List UInt8) : Stm := t.foldl addB s
def begin_ : Stm := ⟨init, List.replicate 64 0, 0⟩
def be8 (n : UInt64) : List UInt8 := (List.range 8).map fun i => UInt8.ofNat (n.toNat / 2 ^ (56 - 8 * i))
def zerosFor (n : Nat) : Nat := (119 - n % 64) % 64
def pad (n : UInt64) : List UInt8 := 128 :: (List.replicate (zerosFor n.toNat) 0 ++ be8 (8 * n))
def outB (st : List UInt32) : List UInt8 := (List.range 32).map fun i => UInt8.ofNat ((st.getD (i / 4) 0).toNat / 2 ^ (24 - 8 * (i % 4)))
def fin (s : Stm) : List UInt8 := outB (adds s (pad s.n)).st
def sum (m : List UInt8) : List UInt8 := fin (adds begin_ m)
theorem sch_len (b : List UInt8) : ∀ t, (sch b t).length = t
 | 0 => rfl
 | t + 1 => by simp [sch, sch_len b t]
theorem comp_len (s : List UInt32) (b : List UInt8) (h : s.length = 8) : (comp s b).length = 8 := by
 simp [comp, h, l8]
def rotl (x : UInt32) (k : Int) : UInt32 := ofw ((x.toNat : Int) * 2 ^ (min (((ofq k &&& 31).toNat : Int)).toNat 32)) ||| UInt32.ofNat (x.toNat / 2 ^ (min (((32 : UInt64) - (ofq k &&& 31)).toNat : Int).toNat 32))
theorem shlw (x : UInt32) (k : Nat) (hk : k < 32) : ofw ((x.toNat : Int) * 2 ^ k) = x <<< UInt32.ofNat k := by
 apply UInt32.toNat_inj.1
 have h1 := ofw_toNat ((x.toNat : Int) * 2 ^ k)
 have h2 : (UInt32.ofNat k).toNat = k := by rw [UInt32.toNat_ofNat']; exact Nat.mod_eq_of_lt omQ
 rw [UInt32.toNat_shiftLeft, h2, Nat.mod_eq_of_lt hk, Nat.shiftLeft_eq]
 have h3 : ((x.toNat : Int) * 2 ^ k) = ((x.toNat * 2 ^ k : Nat) : Int) := by simp
 rw [h3] at h1 ⊢
 omega
theorem shrw (x : UInt32) (k : Nat) (hk : k < 32) : UInt32.ofNat (x.toNat / 2 ^ k) = x >>> UInt32.ofNat k := by
 apply UInt32.toNat_inj.1
 have h2 : (UInt32.ofNat k).toNat = k := by rw [UInt32.toNat_ofNat']; exact Nat.mod_eq_of_lt omQ
 rw [UInt32.toNat_shiftRight, h2, Nat.mod_eq_of_lt hk, Nat.shiftRight_eq_div_pow, UInt32.toNat_ofNat']
 have := Nat.div_le_self x.toNat (2 ^ k)
 have := x.toNat_lt
 exact Nat.mod_eq_of_lt omQ
theorem cvbw (c : UInt8) : ofw (c.toNat : Int) = c.toUInt32 := by
 apply UInt32.toNat_inj.1
 have h1 := ofw_toNat (c.toNat : Int)
 have := c.toNat_lt
 rw [UInt8.toNat_toUInt32]
 omega
theorem rotl_rotr (x : UInt32) (k : Nat) (h1 : 0 < k) (h2 : k < 32) : rotl x (-(k : Int)) = rotr x (UInt32.ofNat k) := by
 have e1 : ((ofq (-(k : Int)) &&& 31).toNat) = 32 - k := by
  have h3 := ofq_toNat (-(k : Int))
  rw [UInt64.toNat_and]
  have h4 : (ofq (-(k : Int))).toNat = 18446744073709551616 - k := by omega
  rw [h4, show (31 : UInt64).toNat = 2 ^ 5 - 1 from rfl, Nat.and_two_pow_sub_one_eq_mod]
  omega
 have e2 : (((32 : UInt64) - (ofq (-(k : Int)) &&& 31)).toNat) = k := by
  rw [UInt64.toNat_sub, e1, show (32 : UInt64).toNat = 32 from rfl]
  omega
 unfold rotl rotr
 rw [e1, e2, Int.toNat_natCast, Int.toNat_natCast, Nat.min_eq_left omQ, Nat.min_eq_left omQ, shlw x _ omQ, shrw x k h2, UInt32.or_comm]
 congr 1
 congr 1
 apply UInt32.toNat_inj.1
 rw [UInt32.toNat_sub, UInt32.toNat_ofNat', UInt32.toNat_ofNat', show (32 : UInt32).toNat = 32 from rfl]
 omega
def acc4 (b : List UInt8) (t : Nat) : Nat → UInt32
 | 0 => 0
 | j + 1 => (acc4 b t j <<< 8) ||| (b.getD (4 * t + j) 0).toUInt32
theorem acc4_word (b : List UInt8) (t : Nat) : acc4 b t 4 = word b t := by
 simp only [acc4, word, Nat.add_zero]
 apply UInt32.toBitVec_inj.1
 have e8 : (8:UInt32).toBitVec % 32#32 = 8#32 := by decide
 have e24 : (24:UInt32).toBitVec % 32#32 = 24#32 := by decide
 have e16 : (16:UInt32).toBitVec % 32#32 = 16#32 := by decide
 have e0 : (0:UInt32).toBitVec = 0#32 := rfl
 simp only [UInt32.toBitVec_or, UInt32.toBitVec_shiftLeft, e8, e24, e16, e0]
 simp [BitVec.shiftLeft_or_distrib, ← BitVec.shiftLeft_add]
def schW (b : List UInt8) (t : Nat) : List UInt32 := sch b t ++ List.replicate (64 - t) 0
def schA (b : List UInt8) (t j : Nat) : List UInt32 := sch b t ++ (acc4 b t j :: List.replicate (63 - t) 0)
theorem schW_len (b : List UInt8) (t : Nat) (h : t ≤ 64) : (schW b t).length = 64 := by simp [schW, sch_len]; omega
theorem schA_len (b : List UInt8) (t j : Nat) (h : t < 64) : (schA b t j).length = 64 := by simp [schA, sch_len]; omega
theorem schW_A (b : List UInt8) (t : Nat) (h : t < 64) : schW b t = schA b t 0 := by
 unfold schW schA acc4
 rw [show 64 - t = (63 - t) + 1 by omega, List.replicate_succ]
theorem schA_at (b : List UInt8) (t j : Nat) : (schA b t j).getD t 0 = acc4 b t j := by
 simp [schA, sch_len]
theorem schA_set (b : List UInt8) (t j : Nat) (x : UInt32) (hx : x = acc4 b t (j + 1)) : (schA b t j).set t x = schA b t (j + 1) := by
 subst hx
 unfold schA
 rw [List.set_append_right _ _ (by rw [sch_len]; exact Nat.le_refl _), sch_len, Nat.sub_self, List.set_cons_zero]
theorem schA_end (b : List UInt8) (t : Nat) (h : t < 16) : schA b t 4 = schW b (t + 1) := by
 unfold schA schW
 rw [acc4_word, sch]
 simp only [if_pos h, List.append_assoc, List.cons_append, List.nil_append]
 rw [show 64 - (t + 1) = 63 - t by omega]
theorem schW_at (b : List UInt8) (t k : Nat) (h : k < t) : (schW b t).getD k 0 = (sch b t).getD k 0 := by
 unfold schW
 simp only [List.getD_eq_getElem?_getD]
 rw [List.getElem?_append_left (by rw [sch_len]; exact h)]
theorem schW_set (b : List UInt8) (t : Nat) (h1 : 16 ≤ t) (h2 : t < 64) (x : UInt32)
  (hx : x = (sch b t).getD (t - 16) 0 + s0 ((sch b t).getD (t - 15) 0) + (sch b t).getD (t - 7) 0 + s1 ((sch b t).getD (t - 2) 0)) : (schW b t).set t x = schW b (t + 1) := by
 subst hx
 rw [schW_A b t h2]
 unfold schA schW
 rw [List.set_append_right _ _ (by rw [sch_len]; exact Nat.le_refl _), sch_len, Nat.sub_self, List.set_cons_zero, sch]
 simp only [if_neg (show ¬ t < 16 by omega), List.append_assoc, List.cons_append, List.nil_append]
 rw [show 64 - (t + 1) = 63 - t by omega]
theorem schW_64 (b : List UInt8) : schW b 64 = sch b 64 := by simp [schW]
theorem acc_step (bb : List UInt8) (t j : Int) (h0 : 0 ≤ t) (h1 : t < 16) (h2 : 0 ≤ j) (h3 : j < 4) (hl : bb.length = 64) :
  (schA bb t.toNat j.toNat).set t.toNat (ofw (((schA bb t.toNat j.toNat).getD t.toNat 0).toNat * 2 ^ min (Int.toNat 8) 32) ||| ofw (((List.drop (4 * t).toNat (List.take (4 * t + 4).toNat bb)).getD j.toNat 0).toNat : Int)) = schA bb t.toNat (j + 1).toNat := by
 obtain ⟨t, rfl⟩ := Int.eq_ofNat_of_zero_le h0
 obtain ⟨j, rfl⟩ := Int.eq_ofNat_of_zero_le h2
 simp only [Int.toNat_natCast]
 rw [show ((j : Int) + 1).toNat = j + 1 by omega, show (4 * (t : Int)).toNat = 4 * t by omega, show (4 * (t : Int) + 4).toNat = 4 * t + 4 by omega, show min (Int.toNat 8) 32 = 8 from rfl]
 refine schA_set bb t j _ ?_
 rw [schA_at, shlw _ 8 omQ, cvbw, acc4]
 congr 2
 simp only [List.getD_eq_getElem?_getD]
 rw [List.getElem?_drop, List.getElem?_take, if_pos omQ]
theorem sch_step (bb : List UInt8) (t : Int) (h1 : 16 ≤ t) (h2 : t < 64) :
  ((schW bb t.toNat).set t.toNat ((schW bb t.toNat).getD (t - 16).toNat 0 + (rotl ((schW bb t.toNat).getD (t - 15).toNat 0) (-7) ^^^ rotl ((schW bb t.toNat).getD (t - 15).toNat 0) (-18) ^^^ UInt32.ofNat (((schW bb t.toNat).getD (t - 15).toNat 0).toNat / 2 ^ min (Int.toNat 3) 32)) + (schW bb t.toNat).getD (t - 7).toNat 0 +
   (rotl ((schW bb t.toNat).getD (t - 2).toNat 0) (-17) ^^^ rotl ((schW bb t.toNat).getD (t - 2).toNat 0) (-19) ^^^ UInt32.ofNat (((schW bb t.toNat).getD (t - 2).toNat 0).toNat / 2 ^ min (Int.toNat 10) 32)))) = schW bb (t + 1).toNat := by
 obtain ⟨t, rfl⟩ := Int.eq_ofNat_of_zero_le (show 0 ≤ t by omega)
 simp only [Int.toNat_natCast]
 rw [show ((t : Int) + 1).toNat = t + 1 by omega, show ((t : Int) - 16).toNat = t - 16 by omega, show ((t : Int) - 15).toNat = t - 15 by omega, show ((t : Int) - 7).toNat = t - 7 by omega, show ((t : Int) - 2).toNat = t - 2 by omega, show min (Int.toNat 3) 32 = 3 from rfl, show min (Int.toNat 10) 32 = 10 from rfl]
 refine schW_set bb t omQ omQ _ ?_
 rw [schW_at bb t _ omQ, schW_at bb t _ omQ, schW_at bb t _ omQ, schW_at bb t _ omQ, shrw _ 3 omQ, shrw _ 10 omQ]
 have e := rotl_rotr
 have e7 := fun x => e x 7 omQ omQ
 have e18 := fun x => e x 18 omQ omQ
 have e17 := fun x => e x 17 omQ omQ
 have e19 := fun x => e x 19 omQ omQ
 unfold s0 s1
 rw [show (-7 : Int) = -((7 : Nat) : Int) from rfl, show (-18 : Int) = -((18 : Nat) : Int) from rfl, show (-17 : Int) = -((17 : Nat) : Int) from rfl, show (-19 : Int) = -((19 : Nat) : Int) from rfl, e7, e18, e17, e19]
 rfl
def upd (ss fin : List UInt32) (i : Nat) : List UInt32 := (List.range 8).map fun j => if j % 4 < i then ss.getD j 0 + fin.getD j 0 else ss.getD j 0
theorem upd_len (ss fin : List UInt32) (i : Nat) : (upd ss fin i).length = 8 := by simp [upd]
theorem list8 {l : List UInt32} (h : l.length = 8) : ∃ a b c d e f g k, l = [a, b, c, d, e, f, g, k] := by
 match l, h with
 | [a, b, c, d, e, f, g, k], _ => exact ⟨a, b, c, d, e, f, g, k, rfl⟩
theorem mix_rotr (x : UInt32) (i j k : Int) (hi : 0 < i ∧ i < 32) (hj : 0 < j ∧ j < 32) (hk : 0 < k ∧ k < 32) :
  rotl x (-i) ^^^ rotl x (-j) ^^^ rotl x (-k) = rotr x (UInt32.ofNat i.toNat) ^^^ rotr x (UInt32.ofNat j.toNat) ^^^ rotr x (UInt32.ofNat k.toNat) := by
 have e := fun (n : Int) (h : 0 < n ∧ n < 32) => rotl_rotr x n.toNat omQ omQ
 have e1 := e i hi
 have e2 := e j hj
 have e3 := e k hk
 rw [Int.toNat_of_nonneg omQ] at e1 e2 e3
 rw [e1, e2, e3]
theorem rounds_succ (ws : List UInt32) (s : S8) (i : Int) (h : 0 ≤ i) : rounds ws s (i + 1).toNat = rnd (rounds ws s i.toNat) (kc.getD i.toNat 0) (ws.getD i.toNat 0) := by
 rw [show (i + 1).toNat = i.toNat + 1 by omega]
 rfl
end Sha
end Go.Fw
end

section
namespace Go.Fw
namespace Sha
theorem at_sgn (n : UInt64) : sgn (n % 64) = ((n.toNat % 64 : Nat) : Int) := by
 have h : (n % 64).toNat = n.toNat % 64 := by simp
 unfold sgn
 rw [h]
 split <;> omega
theorem at_add (n : UInt64) (m : Nat) : (n + ofq (m : Int)).toNat % 64 = (n.toNat % 64 + m) % 64 := by
 have h1 := ofq_toNat (m : Int)
 rw [UInt64.toNat_add]
 omega
theorem adds_app (s : Stm) (a b : List UInt8) : adds s (a ++ b) = adds (adds s a) b := by simp [adds]
theorem adds_snoc (s : Stm) (a : List UInt8) (c : UInt8) : adds s (a ++ [c]) = addB (adds s a) c := by simp [adds]
theorem set_mid (l : List UInt8) (v : List UInt8) (q : Nat) (c : UInt8) (h : q + v.length < l.length) :
  (l.take q ++ (v ++ l.drop (q + v.length))).set (q + v.length) c = l.take q ++ ((v ++ [c]) ++ l.drop (q + (v ++ [c]).length)) := by
 have e : (l.take q).length = q := by simp; omega
 rw [List.set_append_right _ _ omQ, e, Nat.add_sub_cancel_left, List.set_append_right _ _ omQ, Nat.sub_self, List.append_assoc]
 congr 2
 rw [List.drop_eq_getElem_cons h]
 simp [Nat.add_assoc]
theorem ofq_add (a b : Nat) : ofq ((a + b : Nat) : Int) = ofq (a : Int) + ofq (b : Int) := by
 apply UInt64.toNat.inj
 rw [UInt64.toNat_add]
 have h1 := ofq_toNat ((a + b : Nat) : Int)
 have h2 := ofq_toNat (a : Int)
 have h3 := ofq_toNat (b : Int)
 omega
theorem adds_part (s : Stm) (q : Nat) (hq : s.n.toNat % 64 = q) (h64 : s.bl.length = 64) : ∀ (m : Nat) (u : List UInt8), u.length = m → q + m ≤ 64 →
  adds s u = ⟨if q + m = 64 then comp s.st (s.bl.take q ++ (u ++ s.bl.drop (q + m))) else s.st, s.bl.take q ++ (u ++ s.bl.drop (q + m)), s.n + ofq (m : Int)⟩ := by
 intro m
 induction m with
 | zero =>
  intro u hu hm
  have hq2 : q < 64 := by omega
  have : u = [] := List.eq_nil_of_length_eq_zero hu
  subst this
  have h0 : ofq ((0 : Nat) : Int) = 0 := by decide
  rw [h0, if_neg omQ]
  simp [adds]
 | succ m ih =>
  intro u hu hm
  obtain ⟨v, c, rfl⟩ : ∃ v c, u = v ++ [c] := by
   refine ⟨u.dropLast, u.getLast (by intro e; rw [e] at hu; simp at hu), ?_⟩
   exact (List.dropLast_concat_getLast _).symm
  have hv : v.length = m := by simpa using hu
  subst hv
  rw [adds_snoc, ih v rfl omQ, if_neg omQ]
  have ha : (s.n + ofq (v.length : Int)).toNat % 64 = q + v.length := by rw [at_add, hq]; omega
  unfold addB
  simp only [ha]
  have hs := set_mid s.bl v q c omQ
  have hl : (v ++ [c]).length = v.length + 1 := by simp
  rw [hs, hl]
  congr 1
  ·by_cases h : q + v.length = 63
   ·rw [if_pos h, if_pos omQ]
   ·rw [if_neg h, if_neg omQ]
  ·rw [ofq_add, UInt64.add_assoc]
   rfl
theorem adds_chunk (s : Stm) (t : List UInt8) (q k : Nat) (hq : s.n.toNat % 64 = q) (h64 : s.bl.length = 64) (hk : k ≤ t.length) (hk2 : q + k ≤ 64) :
  adds s t = adds ⟨if q + k = 64 then comp s.st (s.bl.take q ++ (t.take k ++ s.bl.drop (q + k))) else s.st, s.bl.take q ++ (t.take k ++ s.bl.drop (q + k)), s.n + ofq (k : Int)⟩ (t.drop k) := by
 rw [← adds_part s q hq h64 k (t.take k) (by simp; omega) hk2, ← adds_app, List.take_append_drop]
theorem adds_len (s : Stm) (h8 : s.st.length = 8) (h64 : s.bl.length = 64) (t : List UInt8) : (adds s t).st.length = 8 ∧ (adds s t).bl.length = 64 := by
 induction t generalizing s with
 | nil => exact ⟨h8, h64⟩
 | cons c t ih =>
  refine ih (addB s c) ?_ ?_
  ·unfold addB; dsimp only; split
   ·exact comp_len _ _ h8
   ·exact h8
  ·simp [addB, h64]
end Sha
end Go.Fw
end

section
namespace Go.Fw
namespace Sha
theorem zeros_lt (n : Nat) : zerosFor n < 64 := by unfold zerosFor; omega
theorem zeros_at (n : Nat) : (n + (1 + zerosFor n)) % 64 = 56 := by unfold zerosFor; omega
theorem zeros_un (n j : Nat) (h : j ≤ zerosFor n) (h1 : (n + (1 + j)) % 64 = 56) : j = zerosFor n := by unfold zerosFor at *; omega
theorem be8_len (n : UInt64) : (be8 n).length = 8 := by simp [be8]
theorem be8_step (n : UInt64) (i : Nat) (h : i < 8) : (be8 n).take (i + 1) = (be8 n).take i ++ [UInt8.ofNat (n.toNat / 2 ^ (56 - 8 * i))] := by
 rw [List.take_add_one]
 simp [be8, h]
theorem byte_q (n : UInt64) (i : Int) (h : 0 ≤ i ∧ i < 8) : ofb ((UInt64.ofNat (n.toNat / 2 ^ (min (56 - 8 * i).toNat 64))).toNat : Int) = UInt8.ofNat (n.toNat / 2 ^ (56 - 8 * i.toNat)) := by
 have e : min (56 - 8 * i).toNat 64 = 56 - 8 * i.toNat := by omega
 rw [e]
 have h1 : n.toNat / 2 ^ (56 - 8 * i.toNat) < 18446744073709551616 := Nat.lt_of_le_of_lt (Nat.div_le_self _ _) (by have := n.toNat_lt; omega)
 have h2 : (UInt64.ofNat (n.toNat / 2 ^ (56 - 8 * i.toNat))).toNat = n.toNat / 2 ^ (56 - 8 * i.toNat) := by
  rw [UInt64.toNat_ofNat']
  exact Nat.mod_eq_of_lt h1
 rw [h2]
 apply UInt8.toNat.inj
 have h3 := ofb_toNat ((n.toNat / 2 ^ (56 - 8 * i.toNat) : Nat) : Int)
 rw [UInt8.toNat_ofNat']
 omega
def byteO (st : List UInt32) (i : Nat) : UInt8 := UInt8.ofNat ((st.getD (i / 4) 0).toNat / 2 ^ (24 - 8 * (i % 4)))
def outW (st : List UInt32) (i : Nat) : List UInt8 := (List.range 32).map fun j => if j < i then byteO st j else 0
theorem outW_len (st : List UInt32) (i : Nat) : (outW st i).length = 32 := by simp [outW]
theorem outW_32 (st : List UInt32) : outW st 32 = outB st := by
 unfold outW outB
 apply List.map_congr_left
 intro j hj
 rw [List.mem_range] at hj
 rw [if_pos hj]
 rfl
theorem outW_step (st : List UInt32) (i : Nat) (h : i < 32) : (outW st i).set i (byteO st i) = outW st (i + 1) := by
 apply List.ext_getElem
 ·simp [outW]
 ·intro j h1 h2
  simp [outW] at h1 h2
  rw [List.getElem_set]
  simp only [outW, List.getElem_map, List.getElem_range]
  by_cases hj : i = j
  ·subst hj; simp
  ·simp only [hj, if_false]
   by_cases h3 : j < i
   ·rw [if_pos h3, if_pos omQ]
   ·rw [if_neg h3, if_neg omQ]
theorem byte_w (st : List UInt32) (i : Int) (h : 0 ≤ i ∧ i < 32) : ofb ((UInt32.ofNat ((st.getD (i / 4).toNat 0).toNat / 2 ^ (min (24 - 8 * (i % 4)).toNat 32))).toNat : Int) = byteO st i.toNat := by
 have e : min (24 - 8 * (i % 4)).toNat 32 = 24 - 8 * (i.toNat % 4) := by omega
 have e2 : (i / 4).toNat = i.toNat / 4 := by omega
 rw [e, e2]
 unfold byteO
 generalize st.getD (i.toNat / 4) 0 = x
 have h1 : x.toNat / 2 ^ (24 - 8 * (i.toNat % 4)) < 4294967296 := Nat.lt_of_le_of_lt (Nat.div_le_self _ _) (by have := x.toNat_lt; omega)
 have h2 : (UInt32.ofNat (x.toNat / 2 ^ (24 - 8 * (i.toNat % 4)))).toNat = x.toNat / 2 ^ (24 - 8 * (i.toNat % 4)) := by
  rw [UInt32.toNat_ofNat']
  exact Nat.mod_eq_of_lt h1
 rw [h2]
 apply UInt8.toNat.inj
 have h3 := ofb_toNat ((x.toNat / 2 ^ (24 - 8 * (i.toNat % 4)) : Nat) : Int)
 rw [UInt8.toNat_ofNat']
 omega
theorem pad_len (n : UInt64) : (pad n).length < 100 := by
 have := zeros_lt n.toNat
 simp [pad, be8]
 omega
theorem outB_len (st : List UInt32) : (outB st).length = 32 := by simp [outB]
end Sha
end Go.Fw
namespace Go.Fw
namespace Sha
theorem adds_n (s : Stm) (t : List UInt8) : (adds s t).n = s.n + ofq (t.length : Int) := by
 induction t generalizing s with
 | nil => show s.n = s.n + ofq 0; rw [show ofq (0 : Int) = 0 by decide]; simp
 | cons c t ih =>
  show (adds (addB s c) t).n = _
  rw [ih]
  show s.n + 1 + ofq (t.length : Int) = s.n + ofq ((t.length + 1 : Nat) : Int)
  rw [ofq_add, UInt64.add_assoc, show ofq ((1 : Nat) : Int) = 1 by decide, UInt64.add_comm 1]
theorem adds_nlt (s : Stm) (t : List UInt8) (h : s.n.toNat + t.length < 18446744073709551616) : (adds s t).n.toNat = s.n.toNat + t.length := by
 rw [adds_n, UInt64.toNat_add]
 have := ofq_toNat (t.length : Int)
 omega
theorem begin_8 : begin_.st.length = 8 := rfl
theorem begin_64 : begin_.bl.length = 64 := rfl
theorem begin_n : begin_.n.toNat = 0 := rfl
theorem fin_len (s : Stm) : (fin s).length = 32 := outB_len _
theorem sum_len (m : List UInt8) : (sum m).length = 32 := fin_len _
def padK (key : List UInt8) (c : UInt8) : List UInt8 := (key.take (min key.length 64) ++ (List.replicate 64 (0 : UInt8)).drop (min key.length 64)).map (· ^^^ c)
def padW (key : List UInt8) (c : UInt8) (i : Nat) : List UInt8 :=
 let b := key.take (min key.length 64) ++ (List.replicate 64 (0 : UInt8)).drop (min key.length 64)
 (b.take i).map (· ^^^ c) ++ b.drop i
def keyOf (key : List UInt8) : List UInt8 := if 64 < key.length then sum key else key
def mac (key text : List UInt8) : List UInt8 :=
 fin (adds (adds begin_ (padK (keyOf key) 92)) (fin (adds (adds begin_ (padK (keyOf key) 54)) text)))
end Sha
end Go.Fw
namespace Go.Fw
namespace Sha
end Sha
end Go.Fw
end

section
/- The wire's encodings in plain words. -/
namespace Go.Fw
namespace Wi
def nbF (m : UInt64) : Nat → Nat
 | 0 => 0
 | k + 1 => if m.toNat / 2 ^ (8 * k) = 0 then nbF m k else k + 1
def nb (m : UInt64) : Nat := nbF m 8
theorem nbF_le (m : UInt64) : ∀ k, nbF m k ≤ k
 | 0 => Nat.le_refl _
 | k + 1 => by unfold nbF; split; exact Nat.le_succ_of_le (nbF_le m k); exact Nat.le_refl _
theorem nb_le (m : UInt64) : nb m ≤ 8 := nbF_le m 8
def mOf (n : Int) : UInt64 := if n < 0 then ~~~(ofq n) else ofq n
def flOf (n : Int) : UInt8 := if n < 0 then 255 else 0
def digit (m : UInt64) (fl : UInt8) (i : Nat) : UInt8 := UInt8.ofNat (m.toNat / 2 ^ (8 * i)) ^^^ fl
def digsFrom (m : UInt64) (fl : UInt8) (k i : Nat) : List UInt8 := ((List.range (k - i)).map fun j => digit m fl (k - 1 - j))
def int (n : Int) : List UInt8 := (UInt8.ofNat (128 + nb (mOf n)) ^^^ flOf n) :: digsFrom (mOf n) (flOf n) (nb (mOf n)) 0
theorem int_len (n : Int) : (int n).length = 1 + nb (mOf n) := by simp [int, digsFrom]; omega
theorem int_len9 (n : Int) : 1 ≤ (int n).length ∧ (int n).length ≤ 9 := by have := int_len n; have := nb_le (mOf n); omega
def bytes (s : List UInt8) : List UInt8 := int s.length ++ s
theorem digs_step (m : UInt64) (fl : UInt8) (k i : Nat) (h : i < k) : digsFrom m fl k (i + 1) ++ [digit m fl i] = digsFrom m fl k i := by
 unfold digsFrom
 rw [show k - i = (k - (i + 1)) + 1 by omega, List.range_succ, List.map_append]
 congr 1
 simp
 congr 1
 omega
theorem digs_len (m : UInt64) (fl : UInt8) (k i : Nat) : (digsFrom m fl k i).length = k - i := by simp [digsFrom]
theorem digit_q (m : UInt64) (fl : UInt8) (i : Int) (h : 0 ≤ i ∧ i < 8) : ofb ((UInt64.ofNat (m.toNat / 2 ^ (min (8 * i).toNat 64))).toNat : Int) ^^^ fl = digit m fl i.toNat := by
 have e : min (8 * i).toNat 64 = 8 * i.toNat := by omega
 rw [e]
 unfold digit
 congr 1
 have h1 : m.toNat / 2 ^ (8 * i.toNat) < 18446744073709551616 := Nat.lt_of_le_of_lt (Nat.div_le_self _ _) (by have := m.toNat_lt; omega)
 have h2 : (UInt64.ofNat (m.toNat / 2 ^ (8 * i.toNat))).toNat = m.toNat / 2 ^ (8 * i.toNat) := by
  rw [UInt64.toNat_ofNat']
  exact Nat.mod_eq_of_lt h1
 rw [h2]
 apply UInt8.toNat.inj
 have h3 := ofb_toNat ((m.toNat / 2 ^ (8 * i.toNat) : Nat) : Int)
 rw [UInt8.toNat_ofNat']
 omega
theorem top_q (m : UInt64) (k : Nat) (h : k < 8) : (0 : UInt64) < UInt64.ofNat (m.toNat / 2 ^ (min (8 * (k : Int)).toNat 64)) ↔ ¬ m.toNat / 2 ^ (8 * k) = 0 := by
 have e : min (8 * (k : Int)).toNat 64 = 8 * k := by omega
 rw [e]
 have h1 : m.toNat / 2 ^ (8 * k) < 18446744073709551616 := Nat.lt_of_le_of_lt (Nat.div_le_self _ _) (by have := m.toNat_lt; omega)
 have h2 : (UInt64.ofNat (m.toNat / 2 ^ (8 * k))).toNat = m.toNat / 2 ^ (8 * k) := by
  rw [UInt64.toNat_ofNat']
  exact Nat.mod_eq_of_lt h1
 rw [UInt64.lt_iff_toNat_lt, h2]
 show 0 < _ ↔ _
 omega
end Wi
end Go.Fw
namespace Go.Fw
namespace Wi
theorem ofb_nat (n : Nat) : ofb (n : Int) = UInt8.ofNat n := by
 apply UInt8.toNat.inj
 have h3 := ofb_toNat (n : Int)
 rw [UInt8.toNat_ofNat']
 omega
end Wi
end Go.Fw
namespace Go.Fw
namespace Wi
theorem flat_len (ps : List (List UInt8)) (hp : ∀ p ∈ ps, p.length < 1048576) : (ps.flatMap bytes).length ≤ ps.length * 1048585 := by
 induction ps with
 | nil => simp
 | cons p ps ih =>
  have h1 := ih fun q hq => hp q (by simp [hq])
  have h2 := hp p (by simp)
  have h3 := int_len9 p.length
  simp only [List.flatMap_cons, List.length_append, List.length_cons, bytes]
  omega
end Wi
namespace Sha
def ofS (tag : Int) (ps : List (List UInt8)) : Stm := adds (adds begin_ [ofb tag]) (ps.flatMap Wi.bytes)
def ofD (tag : Int) (ps : List (List UInt8)) : List UInt8 := (fin (ofS tag ps)).take 16
theorem ofS_ok (tag : Int) (ps : List (List UInt8)) : (ofS tag ps).st.length = 8 ∧ (ofS tag ps).bl.length = 64 :=
 let h := adds_len begin_ begin_8 begin_64 [ofb tag]
 adds_len _ h.1 h.2 _
theorem ofS_n (tag : Int) (ps : List (List UInt8)) (hp : ∀ p ∈ ps, p.length < 1048576) (hl : ps.length < 1048576) : (ofS tag ps).n.toNat < 2199023255552 := by
 have h1 := adds_nlt begin_ [ofb tag] (by rw [begin_n]; simp)
 have h2 := Wi.flat_len ps hp
 have h3 := adds_nlt (adds begin_ [ofb tag]) (ps.flatMap Wi.bytes) (by rw [h1, begin_n]; simp only [List.length_cons, List.length_nil]; omega)
 unfold ofS
 rw [h3, h1, begin_n]
 simp only [List.length_cons, List.length_nil]
 omega
theorem ofS_0 (tag : Int) : ofS tag [] = adds begin_ [ofb tag] := rfl
theorem ofS_step (tag : Int) (ps : List (List UInt8)) (i : Nat) (h : i < ps.length) : adds (ofS tag (ps.take i)) (Wi.bytes ps[i]) = ofS tag (ps.take (i + 1)) := by
 unfold ofS
 rw [← adds_app, List.take_add_one, List.getElem?_eq_getElem h, List.flatMap_append]
 simp
theorem ofD_len (tag : Int) (ps : List (List UInt8)) : (ofD tag ps).length = 16 := by unfold ofD; rw [List.length_take, fin_len]; rfl
end Sha
end Go.Fw
namespace Go.Fw
namespace Sha
theorem ofS_step' (tag : Int) (ps : List (List UInt8)) (i : Nat) (h : i < ps.length) : adds (ofS tag (ps.take i)) (Wi.bytes (ps.getD i [])) = ofS tag (ps.take (i + 1)) := by
 rw [← ofS_step tag ps i h, List.getD_eq_getElem?_getD, List.getElem?_eq_getElem h]
 rfl
theorem getD_mem (ps : List (List UInt8)) (i : Nat) (h : i < ps.length) : ps.getD i [] ∈ ps := by
 rw [List.getD_eq_getElem?_getD, List.getElem?_eq_getElem h]
 exact List.getElem_mem h
end Sha
end Go.Fw
namespace Go.Fw
theorem Wi.bytes_len (p : List UInt8) : (Wi.bytes p).length ≤ p.length + 9 := by
 have := Wi.int_len9 p.length
 simp only [Wi.bytes, List.length_append]
 omega
end Go.Fw
end

section
namespace Go.Fw
namespace Wi
def mag (n : Int) : Int := if n < 0 then -1 - n else n
theorem mOf_mag (n : Int) (h : -9223372036854775808 ≤ n ∧ n ≤ 9223372036854775807) : ((mOf n).toNat : Int) = mag n := by
 have hq := ofq_toNat n
 unfold mOf mag
 split
 ·have : (~~~(ofq n)).toNat = 18446744073709551615 - (ofq n).toNat := by
   rw [UInt64.toNat_not]
   rfl
  omega
 ·omega
theorem nbF_spec (m : UInt64) : ∀ k, (∀ i, i < nbF m k → 0 < m.toNat / 2 ^ (8 * i)) ∧ (nbF m k < k → m.toNat / 2 ^ (8 * nbF m k) = 0)
 | 0 => ⟨fun i h => absurd h (Nat.not_lt_zero _), fun h => absurd h (Nat.not_lt_zero _)⟩
 | k + 1 => by
  have ih := nbF_spec m k
  have hle := nbF_le m k
  unfold nbF
  split
  ·rename_i h0
   refine ⟨ih.1, fun _ => ?_⟩
   rcases Nat.lt_or_ge (nbF m k) k with h | h
   ·exact ih.2 h
   ·rw [show nbF m k = k by omega]; exact h0
  ·rename_i h0
   refine ⟨fun i hi => ?_, fun h => absurd h (Nat.lt_irrefl _)⟩
   have h1 : 0 < m.toNat / 2 ^ (8 * k) := Nat.pos_of_ne_zero h0
   have h2 : 2 ^ (8 * i) ≤ 2 ^ (8 * k) := Nat.pow_le_pow_right omQ omQ
   exact Nat.lt_of_lt_of_le h1 (Nat.div_le_div_left h2 (Nat.pow_pos omQ))
theorem nb_zero (m : UInt64) : m.toNat / 2 ^ (8 * nb m) = 0 := by
 rcases Nat.lt_or_ge (nb m) 8 with h | h
 ·exact (nbF_spec m 8).2 h
 ·have := nb_le m
  rw [show nb m = 8 by omega]
  have := m.toNat_lt
  omega
theorem nb_un (m : UInt64) (j : Nat) (h0 : m.toNat / 2 ^ (8 * j) = 0) (h1 : ∀ i, i < j → 0 < m.toNat / 2 ^ (8 * i)) : j = nb m := by
 rcases Nat.lt_trichotomy j (nb m) with h | h | h
 ·have := (nbF_spec m 8).1 j h; omega
 ·exact h
 ·have := h1 _ h; have := nb_zero m; omega
end Wi
end Go.Fw
namespace Go.Fw
namespace Wi
theorem fl_sub (d : UInt8) : 255 - d = d ^^^ 255 := by
 apply UInt8.toBitVec_inj.1
 show 255#8 - d.toBitVec = d.toBitVec ^^^ 255#8
 generalize d.toBitVec = b
 revert b
 decide +kernel
theorem head_neg (k : Nat) (h : k ≤ 8) : ofb (127 - (k : Int)) = UInt8.ofNat (128 + k) ^^^ 255 := by
 have : ∀ k : Nat, k ≤ 8 → ofb (127 - (k : Int)) = UInt8.ofNat (128 + k) ^^^ 255 := by decide
 exact this k h
def digLE (m : Nat) (j : Nat) : List UInt8 := (List.range j).map fun i => UInt8.ofNat (m / 2 ^ (8 * i))
theorem digLE_len (m j : Nat) : (digLE m j).length = j := by simp [digLE]
theorem digLE_step (m : Nat) (j : Nat) (mi : Int) (h : mi = ((m / 2 ^ (8 * j) : Nat) : Int)) : digLE m j ++ [ofb (mi % 256)] = digLE m (j + 1) := by
 unfold digLE
 rw [List.range_succ, List.map_append]
 congr 1
 simp only [List.map_cons, List.map_nil]
 congr 1
 subst h
 apply UInt8.toNat.inj
 have h3 := ofb_toNat (((m / 2 ^ (8 * j) : Nat) : Int) % 256)
 rw [UInt8.toNat_ofNat']
 omega
theorem digLE_get (m j i : Nat) (h : i < j) : (digLE m j).getD i 0 = UInt8.ofNat (m / 2 ^ (8 * i)) := by
 rw [List.getD_eq_getElem?_getD, List.getElem?_eq_getElem (by rw [digLE_len]; exact h)]
 simp [digLE]
theorem div_step (m j : Nat) (mi : Int) (h : mi = ((m / 2 ^ (8 * j) : Nat) : Int)) : mi / 256 = ((m / 2 ^ (8 * (j + 1)) : Nat) : Int) := by
 subst h
 rw [show 8 * (j + 1) = 8 * j + 8 by omega, Nat.pow_add, ← Nat.div_div_eq_div_mul]
 omega
end Wi
end Go.Fw
namespace Go.Fw
theorem Wi.nb_max (m : UInt64) (j : Nat) (h : ∀ i, i < j → 0 < m.toNat / 2 ^ (8 * i)) : j ≤ 8 := by
 rcases Nat.lt_or_ge 8 j with h1 | h1
 ·have h2 := h 8 h1
  have h3 := m.toNat_lt
  have h4 : m.toNat / 2 ^ (8 * 8) = 0 := Nat.div_eq_of_lt h3
  omega
 ·exact h1
theorem Wi.div_le (a b : Nat) : ((a / b : Nat) : Int) ≤ a := by have := Nat.div_le_self a b; omega
end Go.Fw
namespace Go.Fw
def Sha.inp (tag : Int) (ps : List (List UInt8)) : List UInt8 := ofb tag :: ps.flatMap Wi.bytes
theorem Sha.inp_step (tag : Int) (ps : List (List UInt8)) (i : Nat) (h : i < ps.length) : inp tag (ps.take i) ++ Wi.bytes (ps.getD i []) = inp tag (ps.take (i + 1)) := by
 unfold inp
 rw [List.take_add_one, List.getElem?_eq_getElem h, List.flatMap_append, List.getD_eq_getElem?_getD, List.getElem?_eq_getElem h, List.cons_append]
 simp
theorem Sha.inp_len (tag : Int) (ps : List (List UInt8)) (hp : ∀ p ∈ ps, p.length < 1048576) : (inp tag ps).length ≤ 1 + ps.length * 1048585 := by
 have := Wi.flat_len ps hp
 unfold inp
 rw [List.length_cons]
 omega
theorem Sha.ofD_ref (tag : Int) (ps : List (List UInt8)) : ofD tag ps = (sum (inp tag ps)).take 16 := by
 unfold ofD ofS sum inp
 rw [← adds_app]
 rfl
end Go.Fw
end

section
namespace Go.Fw
namespace Sha
theorem rotr_q (x : UInt32) (n : Int) (h : 0 < n ∧ n < 32) : UInt32.ofNat (x.toNat / 2 ^ (min n.toNat 32)) ||| ofw ((x.toNat : Int) * 2 ^ (min (32 - n).toNat 32)) = rotr x (UInt32.ofNat n.toNat) := by
 obtain ⟨k, rfl⟩ := Int.eq_ofNat_of_zero_le (show 0 ≤ n by omega)
 rw [Int.toNat_natCast, show min k 32 = k by omega, show min (32 - (k : Int)).toNat 32 = 32 - k by omega, shlw _ _ omQ, shrw _ _ omQ]
 unfold rotr
 have e : UInt32.ofNat (32 - k) = 32 - UInt32.ofNat k := by
  apply UInt32.toNat.inj
  rw [UInt32.toNat_ofNat', UInt32.toNat_sub, UInt32.toNat_ofNat']
  simp
  omega
 rw [e]
theorem schW_set16 (b : List UInt8) (t : Nat) (h : t < 16) : (schW b t).set t (word b t) = schW b (t + 1) := by
 rw [schW_A b t omQ, ← acc4_word, ← schA_end b t h]
 unfold schA
 rw [List.set_append_right _ _ (by rw [sch_len]; exact Nat.le_refl _), sch_len, Nat.sub_self, List.set_cons_zero]
theorem word_step (bb : List UInt8) (t : Int) (h0 : 0 ≤ t) (h1 : t < 16) :
  (schW bb t.toNat).set t.toNat (ofw (((ofw (((bb.getD (4 * t).toNat 0).toNat : Int))).toNat : Int) * 2 ^ min (Int.toNat 24) 32) ||| ofw (((ofw (((bb.getD (4 * t + 1).toNat 0).toNat : Int))).toNat : Int) * 2 ^ min (Int.toNat 16) 32) ||| ofw (((ofw (((bb.getD (4 * t + 2).toNat 0).toNat : Int))).toNat : Int) * 2 ^ min (Int.toNat 8) 32) ||| ofw (((bb.getD (4 * t + 3).toNat 0).toNat : Int))) = schW bb (t + 1).toNat := by
 obtain ⟨t, rfl⟩ := Int.eq_ofNat_of_zero_le h0
 rw [show ((t : Int) + 1).toNat = t + 1 by omega, ← schW_set16 bb t omQ]
 simp only [Int.toNat_natCast]
 rw [show (4 * (t : Int)).toNat = 4 * t by omega, show (4 * (t : Int) + 1).toNat = 4 * t + 1 by omega, show (4 * (t : Int) + 2).toNat = 4 * t + 2 by omega, show (4 * (t : Int) + 3).toNat = 4 * t + 3 by omega,
  show min (Int.toNat 24) 32 = 24 from rfl, show min (Int.toNat 16) 32 = 16 from rfl, show min (Int.toNat 8) 32 = 8 from rfl, cvbw, cvbw, cvbw, cvbw, shlw _ 24 omQ, shlw _ 16 omQ, shlw _ 8 omQ]
 rfl
theorem ref_step (bb : List UInt8) (t : Int) (h1 : 16 ≤ t) (h2 : t < 64) :
  ((schW bb t.toNat).set t.toNat ((schW bb t.toNat).getD (t - 16).toNat 0 + (rotr ((schW bb t.toNat).getD (t - 15).toNat 0) (UInt32.ofNat (Int.toNat 7)) ^^^ rotr ((schW bb t.toNat).getD (t - 15).toNat 0) (UInt32.ofNat (Int.toNat 18)) ^^^ UInt32.ofNat (((schW bb t.toNat).getD (t - 15).toNat 0).toNat / 2 ^ min (Int.toNat 3) 32)) + (schW bb t.toNat).getD (t - 7).toNat 0 +
   (rotr ((schW bb t.toNat).getD (t - 2).toNat 0) (UInt32.ofNat (Int.toNat 17)) ^^^ rotr ((schW bb t.toNat).getD (t - 2).toNat 0) (UInt32.ofNat (Int.toNat 19)) ^^^ UInt32.ofNat (((schW bb t.toNat).getD (t - 2).toNat 0).toNat / 2 ^ min (Int.toNat 10) 32)))) = schW bb (t + 1).toNat := by
 rw [← sch_step bb t h1 h2]
 have e := rotl_rotr
 rw [show (-7 : Int) = -((7 : Nat) : Int) from rfl, show (-18 : Int) = -((18 : Nat) : Int) from rfl, show (-17 : Int) = -((17 : Nat) : Int) from rfl, show (-19 : Int) = -((19 : Nat) : Int) from rfl, e _ 7 omQ omQ, e _ 18 omQ omQ, e _ 17 omQ omQ, e _ 19 omQ omQ]
 rfl
end Sha
end Go.Fw
end

section
namespace Go.Fw
namespace Sha
def blkAt (m : List UInt8) (i : Nat) : List UInt8 := (m.take (64 * i + 64)).drop (64 * i)
def refS (m : List UInt8) : Nat → List UInt32
 | 0 => init
 | i + 1 => comp (refS m i) (blkAt m i)
theorem refS_len (m : List UInt8) : ∀ i, (refS m i).length = 8
 | 0 => rfl
 | i + 1 => comp_len _ _ (refS_len m i)
theorem blkAt_len (m : List UInt8) (i : Nat) (h : 64 * i + 64 ≤ m.length) : (blkAt m i).length = 64 := by simp [blkAt]; omega
theorem refS_adds (m : List UInt8) : ∀ i, 64 * i ≤ m.length → (adds begin_ (m.take (64 * i))).st = refS m i ∧ (adds begin_ (m.take (64 * i))).n.toNat % 64 = 0
 | 0, _ => by simp [adds, refS, begin_]
 | i + 1, h => by
  have ih := refS_adds m i omQ
  have hl := adds_len begin_ begin_8 begin_64 (m.take (64 * i))
  have e : m.take (64 * (i + 1)) = m.take (64 * i) ++ blkAt m i := by
   unfold blkAt
   rw [List.drop_take, show 64 * i + 64 - 64 * i = 64 by omega, show 64 * (i + 1) = 64 * i + 64 by omega, List.take_add]
  have hb := blkAt_len m i omQ
  rw [e, adds_app, adds_part _ 0 ih.2 hl.2 64 (blkAt m i) hb omQ]
  refine ⟨?_, ?_⟩
  ·dsimp only
   rw [if_pos omQ, ih.1, List.drop_of_length_le omQ]
   simp [refS]
  ·dsimp only
   rw [at_add, ih.2]
theorem pad_at (n : Nat) (h : n < 18446744073709551616) : (pad (ofq (n : Int))).length = 1 + zerosFor n + 8 := by
 have hq : (ofq (n : Int)).toNat = n := by have := ofq_toNat (n : Int); omega
 simp only [pad, hq, List.length_cons, List.length_append, List.length_replicate, be8_len]
 omega
theorem sum_ref (xs : List UInt8) (h : xs.length < 18446744073709551616) (k : Nat) (hk : (xs ++ pad (ofq (xs.length : Int))).length = 64 * k) : sum xs = outB (refS (xs ++ pad (ofq (xs.length : Int))) k) := by
 have h1 := refS_adds (xs ++ pad (ofq (xs.length : Int))) k omQ
 rw [List.take_of_length_le omQ] at h1
 rw [← h1.1]
 unfold sum fin
 rw [adds_app, adds_n begin_ xs]
 have : begin_.n + ofq (xs.length : Int) = ofq (xs.length : Int) := by show (0 : UInt64) + _ = _; simp
 rw [this]
theorem mod_pad (xs : List UInt8) (h : xs.length < 18446744073709551616) : (xs ++ pad (ofq (xs.length : Int))).length % 64 = 0 := by
 have := zeros_at xs.length
 rw [List.length_append, pad_at _ h]
 omega
theorem xor_ff (x : UInt32) : x ^^^ 4294967295 = ~~~x := by
 apply UInt32.toBitVec_inj.1
 show x.toBitVec ^^^ 4294967295#32 = ~~~x.toBitVec
 rw [show (4294967295#32 : BitVec 32) = BitVec.allOnes 32 by decide, BitVec.xor_allOnes]
end Sha
end Go.Fw
end

section
namespace Go.Fw
namespace Sha
end Sha
end Go.Fw
namespace Go.Fw
namespace Sha
end Sha
end Go.Fw
namespace Go.Fw
namespace Sha
def cpW (xs : List UInt8) (n i : Nat) : List UInt8 := xs.take i ++ List.replicate (n - i) 0
theorem cpW_len (xs : List UInt8) (n i : Nat) (h : i ≤ n) (hx : n ≤ xs.length) : (cpW xs n i).length = n := by simp [cpW]; omega
theorem cpW_0 (xs : List UInt8) (n : Nat) : cpW xs n 0 = List.replicate n 0 := by simp [cpW]
theorem cpW_all (xs : List UInt8) (n : Nat) : cpW xs n n = xs.take n := by simp [cpW]
theorem cpW_step (xs : List UInt8) (n i : Nat) (h : i < n) (hx : n ≤ xs.length) : (cpW xs n i).set i (xs.getD i 0) = cpW xs n (i + 1) := by
 unfold cpW
 have e : (xs.take i).length = i := by simp; omega
 rw [List.set_append_right _ _ omQ, e, Nat.sub_self, show n - i = (n - (i + 1)) + 1 by omega, List.replicate_succ, List.set_cons_zero, List.take_add_one, List.getElem?_eq_getElem omQ, List.getD_eq_getElem?_getD, List.getElem?_eq_getElem omQ]
 rw [List.append_assoc]
 rfl
end Sha
end Go.Fw
end

section
namespace Go.Fw
namespace Wi
def valBE (l : List UInt8) : Nat := l.foldl (fun a d => a * 256 + d.toNat) 0
theorem foldBE (l : List UInt8) : ∀ a, l.foldl (fun a d => a * 256 + d.toNat) a = a * 256 ^ l.length + valBE l := by
 induction l with
 | nil => intro a; simp [valBE]
 | cons d l ih =>
  intro a
  unfold valBE
  simp only [List.foldl_cons, List.length_cons]
  rw [ih, ih (0 * 256 + d.toNat), Nat.pow_succ, Nat.add_mul, Nat.mul_comm (256 ^ l.length) 256, ← Nat.mul_assoc, Nat.zero_mul, Nat.zero_add]
  omega
theorem valBE_cons (d : UInt8) (l : List UInt8) : valBE (d :: l) = d.toNat * 256 ^ l.length + valBE l := by
 have := foldBE l (0 * 256 + d.toNat)
 unfold valBE
 rw [List.foldl_cons, this]
 simp [valBE]
theorem digs_cons (m : UInt64) (fl : UInt8) (k : Nat) : digsFrom m fl (k + 1) 0 = digit m fl k :: digsFrom m fl k 0 := by
 unfold digsFrom
 rw [Nat.sub_zero, Nat.sub_zero, List.range_succ_eq_map, List.map_cons, List.map_map]
 congr 1
 apply List.map_congr_left
 intro j hj
 simp only [Function.comp]
 congr 1
 omega
theorem pow256 (k : Nat) : 2 ^ (8 * k) = 256 ^ k := by rw [Nat.pow_mul]
theorem val_digs (m : UInt64) : ∀ k, valBE (digsFrom m 0 k 0) = m.toNat % 256 ^ k
 | 0 => by simp [digsFrom, valBE, Nat.mod_one]
 | k + 1 => by
  rw [digs_cons, valBE_cons, val_digs m k, digs_len, Nat.sub_zero]
  have hd : (digit m 0 k).toNat = m.toNat / 256 ^ k % 256 := by
   unfold digit
   rw [UInt8.xor_zero, UInt8.toNat_ofNat', pow256]
  rw [hd, Nat.pow_succ, Nat.mod_mul, Nat.mul_comm]
  omega
theorem lt_nb (m : UInt64) : m.toNat < 256 ^ nb m := by
 have h := nb_zero m
 rw [pow256] at h
 exact (Nat.div_eq_zero_iff.1 h).resolve_left (Nat.ne_of_gt (Nat.pow_pos omQ))
theorem val_int (m : UInt64) : valBE (digsFrom m 0 (nb m) 0) = m.toNat := by
 rw [val_digs]
 exact Nat.mod_eq_of_lt (lt_nb m)
theorem mOf_nat (n : Nat) (h : n < 9223372036854775808) : (mOf (n : Int)).toNat = n := by
 have hq := ofq_toNat (n : Int)
 unfold mOf
 rw [if_neg omQ]
 omega
theorem flOf_nat (n : Nat) : flOf (n : Int) = 0 := by
 unfold flOf
 rw [if_neg omQ]
end Wi
namespace Sha
end Sha
end Go.Fw
end

section
namespace Go.Fw
namespace Wi
def flipOf (h : UInt8) : UInt8 := if h < 128 then 255 else 0
def getInt (b : List UInt8) : Int × Int × Int :=
 match b with
 | [] => (0, 0, 3)
 | h :: t =>
  if 8 < (h ^^^ flipOf h).toNat - 128 then (0, 0, 2)
  else if t.length < (h ^^^ flipOf h).toNat - 128 then (0, 0, 3)
  else if 0 < (h ^^^ flipOf h).toNat - 128 ∧ t.getD 0 0 ^^^ flipOf h = 0 then (0, 0, 2)
  else if 9223372036854775808 ≤ valBE ((t.take ((h ^^^ flipOf h).toNat - 128)).map (· ^^^ flipOf h)) then (0, 0, 2)
  else (if flipOf h = 0 then (valBE ((t.take ((h ^^^ flipOf h).toNat - 128)).map (· ^^^ flipOf h)) : Int) else -1 - (valBE ((t.take ((h ^^^ flipOf h).toNat - 128)).map (· ^^^ flipOf h)) : Int), ((h ^^^ flipOf h).toNat - 128 : Nat) + 1, 0)
theorem digs_map (m : UInt64) (fl : UInt8) (k i : Nat) : digsFrom m fl k i = (digsFrom m 0 k i).map (· ^^^ fl) := by
 unfold digsFrom
 rw [List.map_map]
 apply List.map_congr_left
 intro j _
 unfold digit
 simp
theorem xor_xor (a b : UInt8) : a ^^^ b ^^^ b = a := by rw [UInt8.xor_assoc, UInt8.xor_self, UInt8.xor_zero]
theorem map_xx (l : List UInt8) (fl : UInt8) : (l.map (· ^^^ fl)).map (· ^^^ fl) = l := by
 rw [List.map_map]
 conv => rhs; rw [← List.map_id l]
 apply List.map_congr_left
 intro x _
 exact xor_xor x fl
theorem flOf_cases (n : Int) : (n < 0 ∧ flOf n = 255) ∨ (0 ≤ n ∧ flOf n = 0) := by
 unfold flOf
 by_cases h : n < 0
 ·exact .inl ⟨h, if_pos h⟩
 ·exact .inr ⟨by omega, if_neg h⟩
theorem head_facts : ∀ k : Nat, k ≤ 8 → (∀ fl : UInt8, fl = 0 ∨ fl = 255 → flipOf (UInt8.ofNat (128 + k) ^^^ fl) = fl ∧ (UInt8.ofNat (128 + k) ^^^ fl ^^^ fl).toNat - 128 = k) := by
 have : ∀ k : Nat, k ≤ 8 → flipOf (UInt8.ofNat (128 + k) ^^^ 0) = 0 ∧ flipOf (UInt8.ofNat (128 + k) ^^^ 255) = 255 ∧ (UInt8.ofNat (128 + k)).toNat - 128 = k := by decide
 intro k hk fl hfl
 obtain ⟨h1, h2, h3⟩ := this k hk
 rw [xor_xor]
 rcases hfl with rfl | rfl
 ·exact ⟨h1, h3⟩
 ·exact ⟨h2, h3⟩
theorem nb_low (m : UInt64) (h : 0 < nb m) : 256 ^ (nb m - 1) ≤ m.toNat := by
 have h1 := (nbF_spec m 8).1 (nb m - 1) (show nb m - 1 < nbF m 8 by show nb m - 1 < nb m; omega)
 rw [pow256] at h1
 exact Nat.le_of_not_lt fun h2 => by rw [Nat.div_eq_of_lt h2] at h1; omega
theorem flOf_or (n : Int) : flOf n = 0 ∨ flOf n = 255 := by
 rcases flOf_cases n with ⟨_, h⟩ | ⟨_, h⟩ <;> simp [h]
theorem getInt_int (n : Int) (hn : -9223372036854775808 ≤ n ∧ n ≤ 9223372036854775807) (t : List UInt8) : getInt (int n ++ t) = (n, ((int n).length : Int), 0) := by
 have hm := mOf_mag n hn
 have hk := nb_le (mOf n)
 obtain ⟨f1, f2⟩ := head_facts (nb (mOf n)) hk (flOf n) (flOf_or n)
 have hlen := int_len n
 unfold int at hlen ⊢
 rw [List.cons_append]
 unfold getInt
 simp only [f1, f2]
 have hdl : (digsFrom (mOf n) (flOf n) (nb (mOf n)) 0).length = nb (mOf n) := by rw [digs_len]; omega
 have htk : (digsFrom (mOf n) (flOf n) (nb (mOf n)) 0 ++ t).take (nb (mOf n)) = digsFrom (mOf n) (flOf n) (nb (mOf n)) 0 := by
  rw [List.take_append_of_le_length omQ, List.take_of_length_le omQ]
 have hv : valBE ((digsFrom (mOf n) (flOf n) (nb (mOf n)) 0).map (· ^^^ flOf n)) = (mOf n).toNat := by
  rw [digs_map, map_xx, val_int]
 have hd0 : ¬ (0 < nb (mOf n) ∧ (digsFrom (mOf n) (flOf n) (nb (mOf n)) 0 ++ t).getD 0 0 ^^^ flOf n = 0) := by
  rintro ⟨h1, h2⟩
  obtain ⟨k, hk'⟩ : ∃ k, nb (mOf n) = k + 1 := ⟨nb (mOf n) - 1, by omega⟩
  have hlo := nb_low (mOf n) h1
  have hhi := lt_nb (mOf n)
  rw [hk', digs_cons, List.cons_append, List.getD_cons_zero] at h2
  unfold digit at h2
  rw [xor_xor, pow256] at h2
  rw [hk'] at hlo hhi
  have h3 := congrArg UInt8.toNat h2
  rw [UInt8.toNat_ofNat'] at h3
  have h4 : 1 ≤ (mOf n).toNat / 256 ^ k := (Nat.le_div_iff_mul_le (Nat.pow_pos omQ)).2 (by simpa using hlo)
  have h5 : (mOf n).toNat / 256 ^ k < 256 := Nat.div_lt_of_lt_mul (by rw [Nat.pow_succ] at hhi; exact hhi)
  rw [Nat.mod_eq_of_lt h5] at h3
  have : (0 : UInt8).toNat = 0 := rfl
  omega
 rw [if_neg omQ, if_neg (by rw [List.length_append]; omega), if_neg hd0, htk, hv, if_neg (by unfold mag at hm; split at hm <;> omega)]
 refine Prod.ext ?_ (Prod.ext ?_ rfl)
 ·rcases flOf_cases n with ⟨h, e⟩ | ⟨h, e⟩
  ·simp only [e]
   rw [if_neg deQ, hm]; unfold mag; rw [if_pos h]; omega
  ·simp only [e, if_true]
   rw [hm]; unfold mag; rw [if_neg omQ]
 ·show ((nb (mOf n) : Nat) : Int) + 1 = _
  rw [hlen]
  show ((nb (mOf n) : Nat) : Int) + 1 = ((1 + nb (mOf n) : Nat) : Int)
  omega
theorem getInt_short (n : Int) (i : Nat) (h : i < (int n).length) : getInt ((int n).take i) = (0, 0, 3) := by
 have hk := nb_le (mOf n)
 obtain ⟨f1, f2⟩ := head_facts (nb (mOf n)) hk (flOf n) (flOf_or n)
 have hlen := int_len n
 cases i with
 | zero => rfl
 | succ i =>
  unfold int at h ⊢
  rw [List.take_succ_cons]
  rw [List.length_cons, digs_len] at h
  unfold getInt
  simp only [f1, f2]
  rw [if_neg omQ, if_pos (by rw [List.length_take, digs_len]; omega)]
theorem valBE_lt : ∀ (l : List UInt8), valBE l < 256 ^ l.length
 | [] => by simp [valBE]
 | d :: l => by
  rw [valBE_cons, List.length_cons, Nat.pow_succ]
  have h1 := valBE_lt l
  have h2 := d.toNat_lt
  have h3 : d.toNat * 256 ^ l.length ≤ 255 * 256 ^ l.length := Nat.mul_le_mul_right _ omQ
  omega
theorem valBE_inj : ∀ (a b : List UInt8), a.length = b.length → valBE a = valBE b → a = b
 | [], [], _, _ => rfl
 | c :: a, d :: b, hl, hv => by
  have hl' : a.length = b.length := by simpa using hl
  rw [valBE_cons, valBE_cons, hl'] at hv
  have h1 := valBE_lt a
  have h2 := valBE_lt b
  rw [hl'] at h1
  have hp : 0 < 256 ^ b.length := Nat.pow_pos omQ
  have e1 : c.toNat = d.toNat := by
   have h3 : (c.toNat * 256 ^ b.length + valBE a) / 256 ^ b.length = c.toNat := by
    rw [Nat.mul_comm, Nat.mul_add_div hp, Nat.div_eq_of_lt h1]; rfl
   have h4 : (d.toNat * 256 ^ b.length + valBE b) / 256 ^ b.length = d.toNat := by
    rw [Nat.mul_comm, Nat.mul_add_div hp, Nat.div_eq_of_lt h2]; rfl
   rw [← h3, hv, h4]
  rw [UInt8.toNat.inj e1, valBE_inj a b hl' (by rw [e1] at hv; omega)]
theorem mOf_lit (m : Nat) (h : m < 9223372036854775808) (fl : UInt8) (hfl : fl = 0 ∨ fl = 255) : (mOf (if fl = 0 then (m : Int) else -1 - (m : Int))).toNat = m ∧ flOf (if fl = 0 then (m : Int) else -1 - (m : Int)) = fl := by
 rcases hfl with rfl | rfl
 ·rw [if_pos rfl]
  exact ⟨mOf_nat m h, flOf_nat m⟩
 ·rw [if_neg deQ]
  refine ⟨?_, by unfold flOf; rw [if_pos omQ]⟩
  have := mOf_mag (-1 - (m : Int)) omQ
  unfold mag at this
  rw [if_pos omQ] at this
  omega
theorem flipOf_or (h : UInt8) : flipOf h = 0 ∨ flipOf h = 255 := by
 unfold flipOf
 split <;> simp
theorem flip_ge : ∀ h : UInt8, 128 ≤ (h ^^^ flipOf h).toNat := by
 intro h
 have : ∀ b : BitVec 8, 128 ≤ ((UInt8.ofBitVec b) ^^^ flipOf (UInt8.ofBitVec b)).toNat := by decide +kernel
 exact this h.toBitVec
theorem getInt_canon {b : List UInt8} {n k : Int} (h : getInt b = (n, k, 0)) : (-9223372036854775808 ≤ n ∧ n ≤ 9223372036854775807) ∧ k = (int n).length ∧ ∃ t, b = int n ++ t := by
 unfold getInt at h
 split at h
 ·simp at h
 ·rename_i hd t
  have hge := flip_ge hd
  have hfl := flipOf_or hd
  generalize hK : (hd ^^^ flipOf hd).toNat - 128 = K at h
  generalize hF : flipOf hd = fl at h hge hfl hK
  split at h
  ·simp at h
  rename_i h8
  split at h
  ·simp at h
  rename_i hl
  split at h
  ·simp at h
  rename_i h0
  split at h
  ·simp at h
  rename_i hm
  generalize hD : (t.take K).map (· ^^^ fl) = D at h hm
  have hDl : D.length = K := by rw [← hD]; simp; omega
  obtain ⟨e1, e2⟩ := mOf_lit (valBE D) omQ fl hfl
  simp only [Prod.mk.injEq, and_true] at h
  obtain ⟨rfl, rfl⟩ := h
  generalize hn : (if fl = 0 then (valBE D : Int) else -1 - (valBE D : Int)) = n at e1 e2
  have hrange : -9223372036854775808 ≤ n ∧ n ≤ 9223372036854775807 := by
   rw [← hn]; split <;> omega
  have hnb : nb (mOf n) = K := by
   symm
   refine nb_un (mOf n) K ?_ fun i hi => ?_
   ·rw [pow256, e1]
    exact Nat.div_eq_of_lt (by have := valBE_lt D; rwa [hDl] at this)
   ·rw [pow256, e1]
    have hK0 : 0 < K := by omega
    obtain ⟨c, D', hDc⟩ : ∃ c D', D = c :: D' := by
     cases D with
     | nil => simp at hDl; omega
     | cons c D' => exact ⟨c, D', rfl⟩
    have hc : c ≠ 0 := by
     intro hc0
     apply h0
     refine ⟨hK0, ?_⟩
     cases t with
     | nil => simp at hl; omega
     | cons t0 t' =>
      obtain ⟨K', rfl⟩ : ∃ K', K = K' + 1 := ⟨K - 1, by omega⟩
      rw [List.take_succ_cons, List.map_cons, hDc] at hD
      rw [List.getD_cons_zero]
      exact (List.cons.inj hD).1.trans hc0
    have hc1 : 1 ≤ c.toNat := by
     rcases Nat.eq_zero_or_pos c.toNat with h9 | h9
     ·exact absurd (UInt8.toNat.inj (h9.trans (show 0 = (0 : UInt8).toNat from rfl))) hc
     ·exact h9
    have hv : valBE D = c.toNat * 256 ^ D'.length + valBE D' := by rw [hDc, valBE_cons]
    have hDl' : D'.length = K - 1 := by rw [hDc] at hDl; simp at hDl; omega
    have h1 : 256 ^ i ≤ 256 ^ (K - 1) := Nat.pow_le_pow_right omQ omQ
    have h2 : 256 ^ (K - 1) ≤ c.toNat * 256 ^ (K - 1) := Nat.le_mul_of_pos_left _ omQ
    rw [hDl'] at hv
    exact Nat.div_pos omQ (Nat.pow_pos omQ)
  refine ⟨hrange, ?_, t.drop K, ?_⟩
  ·rw [int_len, hnb]; omega
  ·have hdig : digsFrom (mOf n) (flOf n) K 0 = t.take K := by
    rw [digs_map, e2]
    have : digsFrom (mOf n) 0 K 0 = D := by
     refine valBE_inj _ _ (by rw [digs_len, hDl]; omega) ?_
     have := val_int (mOf n)
     rw [hnb] at this
     rw [this, e1]
    rw [this, ← hD, map_xx]
   unfold int
   rw [hnb, hdig, e2]
   have hhd : hd = UInt8.ofNat (128 + K) ^^^ fl := by
    have h1 : hd ^^^ fl = UInt8.ofNat (128 + K) := by
     apply UInt8.toNat.inj
     rw [UInt8.toNat_ofNat']
     omega
    rw [← h1, xor_xor]
   rw [← hhd, List.cons_append, List.take_append_drop]
end Wi
end Go.Fw
end

section
namespace Go.Fw
namespace Wi
def ints (l : List Int) : List UInt8 := int l.length ++ l.flatMap int
def strs (l : List (List UInt8)) : List UInt8 := int l.length ++ l.flatMap bytes
def dgs (l : List (List UInt8)) : List UInt8 := int l.length ++ l.flatten
def cnt (size : Nat) (b : List UInt8) : Int × Int × Int :=
 if (getInt b).2.2 ≠ 0 then (0, 0, (getInt b).2.2)
 else if (getInt b).1 < 0 then (0, 0, 2)
 else if (b.length : Int) - (getInt b).2.1 < (getInt b).1 * size then (0, 0, 3)
 else getInt b
def getBytes (b : List UInt8) : List UInt8 × Int × Int :=
 if (cnt 1 b).2.2 ≠ 0 then ([], 0, (cnt 1 b).2.2)
 else ((b.drop (cnt 1 b).2.1.toNat).take (cnt 1 b).1.toNat, (cnt 1 b).2.1 + (cnt 1 b).1, 0)
def run {α : Type} (dec : List UInt8 → α × Int × Int) (b : List UInt8) (at0 : Int) : Nat → List α × Int × Int
 | 0 => ([], at0, 0)
 | k + 1 =>
  if (run dec b at0 k).2.2 ≠ 0 then run dec b at0 k
  else if (dec (b.drop (run dec b at0 k).2.1.toNat)).2.2 ≠ 0 then ([], 0, (dec (b.drop (run dec b at0 k).2.1.toNat)).2.2)
  else ((run dec b at0 k).1 ++ [(dec (b.drop (run dec b at0 k).2.1.toNat)).1], (run dec b at0 k).2.1 + (dec (b.drop (run dec b at0 k).2.1.toNat)).2.1, 0)
def getList {α : Type} (dec : List UInt8 → α × Int × Int) (b : List UInt8) : List α × Int × Int :=
 if (cnt 1 b).2.2 ≠ 0 then ([], 0, (cnt 1 b).2.2) else run dec b (cnt 1 b).2.1 (cnt 1 b).1.toNat
def getInts (b : List UInt8) : List Int × Int × Int := getList getInt b
def getStrs (b : List UInt8) : List (List UInt8) × Int × Int := getList getBytes b
def getDigs (b : List UInt8) : List (List UInt8) × Int × Int :=
 if (cnt 16 b).2.2 ≠ 0 then ([], 0, (cnt 16 b).2.2)
 else ((List.range (cnt 16 b).1.toNat).map (fun k => (b.drop ((cnt 16 b).2.1.toNat + 16 * k)).take 16), (cnt 16 b).2.1 + 16 * (cnt 16 b).1, 0)
theorem getInt_le {b : List UInt8} {n k : Int} (h : getInt b = (n, k, 0)) : 1 ≤ k ∧ k ≤ b.length ∧ k ≤ 9 := by
 obtain ⟨_, rfl, t, rfl⟩ := getInt_canon h
 have := int_len9 n
 rw [List.length_append]
 omega
theorem getInt_e (b : List UInt8) : (getInt b).2.2 = 0 ∨ getInt b = (0, 0, (getInt b).2.2) ∧ ((getInt b).2.2 = 2 ∨ (getInt b).2.2 = 3) := by
 unfold getInt
 split
 ·simp
 ·repeat (first | split | simp)
theorem cnt_ok {size : Nat} {b : List UInt8} (h : (cnt size b).2.2 = 0) : cnt size b = getInt b ∧ 0 ≤ (cnt size b).1 ∧ 1 ≤ (cnt size b).2.1 ∧ (cnt size b).2.1 + (cnt size b).1 * size ≤ b.length ∧ getInt b = ((cnt size b).1, (cnt size b).2.1, 0) := by
 unfold cnt at h ⊢
 split at h
 ·rename_i h1; exact absurd h h1
 rename_i h1
 rw [if_neg h1]
 split at h
 ·simp at h
 rename_i h2
 rw [if_neg h2]
 split at h
 ·simp at h
 rename_i h3
 rw [if_neg h3]
 have e : getInt b = ((getInt b).1, (getInt b).2.1, 0) := by
  have : (getInt b).2.2 = 0 := by omega
  rw [← this]
 have := getInt_le e
 exact ⟨rfl, by omega, by omega, by omega, e⟩
theorem cnt_int (size n : Nat) (hn : n < 9223372036854775808) (t : List UInt8) : cnt size (int (n : Int) ++ t) = if t.length < n * size then (0, 0, 3) else ((n : Int), ((int (n : Int)).length : Int), 0) := by
 unfold cnt
 rw [getInt_int n omQ]
 dsimp only
 rw [if_neg (by simp), if_neg omQ, List.length_append]
 have e : (((int (n : Int)).length + t.length : Nat) : Int) - ((int (n : Int)).length : Int) < (n : Int) * size ↔ t.length < n * size := by
  have : (n : Int) * size = ((n * size : Nat) : Int) := by simp
  rw [this]; omega
 by_cases h : t.length < n * size
 ·rw [if_pos (e.2 h), if_pos h]
 ·rw [if_neg (fun h2 => h (e.1 h2)), if_neg h]
theorem cnt_short (size n : Nat) (i : Nat) (h : i < (int (n : Int)).length) : cnt size ((int (n : Int)).take i) = (0, 0, 3) := by
 unfold cnt
 rw [getInt_short _ _ h]
 rfl
structure Codec {α : Type} (enc : α → List UInt8) (dec : List UInt8 → α × Int × Int) (p : α → Prop) : Prop where
 rt : ∀ x t, p x → dec (enc x ++ t) = (x, ((enc x).length : Int), 0)
 canon : ∀ b x k, dec b = (x, k, 0) → p x ∧ k = ((enc x).length : Int) ∧ ∃ t, b = enc x ++ t
 short : ∀ x i, p x → i < (enc x).length → (dec ((enc x).take i)).2.2 = 3
 pos : ∀ x, 1 ≤ (enc x).length
theorem codec_int : Codec int getInt (fun n => -9223372036854775808 ≤ n ∧ n ≤ 9223372036854775807) :=
 ⟨fun x t h => getInt_int x h t, fun _ _ _ h => getInt_canon h, fun x i _ h => by rw [getInt_short x i h], fun x => (int_len9 x).1⟩
theorem codec_bytes : Codec bytes getBytes (fun s => s.length < 9223372036854775808) := by
 refine ⟨fun s t h => ?_, fun b s k h => ?_, fun s i hs h => ?_, fun s => by have := int_len9 s.length; unfold bytes; rw [List.length_append]; omega⟩
 ·unfold getBytes bytes
  have hc1 := cnt_int 1 s.length h (s ++ t)
  rw [if_neg (by rw [List.length_append]; omega)] at hc1
  rw [List.append_assoc, hc1]
  dsimp only
  rw [if_neg (by simp), Int.toNat_natCast, Int.toNat_natCast, List.drop_left', List.take_left', List.length_append]
  ·simp
  ·rfl
  ·rfl
 ·unfold getBytes at h
  split at h
  ·rename_i h1
   simp only [Prod.mk.injEq] at h
   exact absurd h.2.2 h1
  ·rename_i h1
   have hc := cnt_ok (size := 1) (b := b) omQ
   obtain ⟨_, h2, h3, h4, h5⟩ := hc
   obtain ⟨hr, hk, t, ht⟩ := getInt_canon h5
   generalize (cnt 1 b).1 = n at h h2 h3 h4 h5 hr hk ht
   generalize (cnt 1 b).2.1 = m at h h3 h4 h5 hk
   simp only [Prod.mk.injEq, and_true] at h
   obtain ⟨rfl, rfl⟩ := h
   subst ht hk
   rw [List.length_append] at h4
   have e1 : (int n ++ t).drop (Int.toNat ((int n).length : Int)) = t := by rw [Int.toNat_natCast, List.drop_left']; rfl
   rw [e1]
   have hl : (t.take n.toNat).length = n.toNat := by rw [List.length_take]; omega
   have e2 : (((t.take n.toNat).length : Nat) : Int) = n := by rw [hl]; omega
   refine ⟨by rw [hl]; omega, ?_, t.drop n.toNat, ?_⟩
   ·unfold bytes
    rw [e2, List.length_append, hl]
    omega
   ·unfold bytes
    rw [e2, List.append_assoc, List.take_append_drop]
 ·unfold bytes at h ⊢
  rw [List.length_append] at h
  rcases Nat.lt_or_ge i (int (s.length : Int)).length with hi | hi
  ·rw [List.take_append_of_le_length omQ]
   unfold getBytes
   rw [cnt_short 1 _ _ hi]
   rfl
  ·rw [List.take_append, List.take_of_length_le hi]
   have hc1 := cnt_int 1 s.length hs (s.take (i - (int (s.length : Int)).length))
   rw [if_pos (by rw [List.length_take]; omega)] at hc1
   unfold getBytes
   rw [hc1]
   rfl
section
variable {α : Type} {enc : α → List UInt8} {dec : List UInt8 → α × Int × Int} {p : α → Prop}
theorem run_succ (b : List UInt8) (at0 : Int) (k : Nat) : run dec b at0 (k + 1) = if (run dec b at0 k).2.2 ≠ 0 then run dec b at0 k
  else if (dec (b.drop (run dec b at0 k).2.1.toNat)).2.2 ≠ 0 then ([], 0, (dec (b.drop (run dec b at0 k).2.1.toNat)).2.2)
  else ((run dec b at0 k).1 ++ [(dec (b.drop (run dec b at0 k).2.1.toNat)).1], (run dec b at0 k).2.1 + (dec (b.drop (run dec b at0 k).2.1.toNat)).2.1, 0) := rfl
theorem run_err (b : List UInt8) (at0 : Int) (k : Nat) (h : (run dec b at0 k).2.2 ≠ 0) : ∀ m, run dec b at0 (k + m) = run dec b at0 k
 | 0 => rfl
 | m + 1 => by
  have ih := run_err b at0 k h m
  rw [show k + (m + 1) = (k + m) + 1 by omega, run_succ, if_pos (by rw [ih]; exact h), ih]
theorem run_err' (b : List UInt8) (at0 : Int) {k n : Nat} (hk : k ≤ n) (h : (run dec b at0 k).2.2 ≠ 0) : run dec b at0 n = run dec b at0 k := by
 have := run_err (dec := dec) b at0 k h (n - k)
 rwa [show k + (n - k) = n by omega] at this
theorem flat_take_succ (xs : List α) (k : Nat) (h : k < xs.length) : (xs.take (k + 1)).flatMap enc = (xs.take k).flatMap enc ++ enc xs[k] := by
 rw [List.take_succ_eq_append_getElem h, List.flatMap_append]
 simp
theorem flat_ge (hc : Codec enc dec p) (xs : List α) : xs.length ≤ (xs.flatMap enc).length := by
 induction xs with
 | nil => simp
 | cons x xs ih => have := hc.pos x; simp only [List.flatMap_cons, List.length_append, List.length_cons]; omega
theorem flat_split (xs : List α) (k : Nat) (h : k < xs.length) : xs.flatMap enc = (xs.take k).flatMap enc ++ (enc xs[k] ++ (xs.drop (k + 1)).flatMap enc) := by
 conv => lhs; rw [← List.take_append_drop k xs, List.flatMap_append, List.drop_eq_getElem_cons h, List.flatMap_cons]
theorem run_cut (hc : Codec enc dec p) (pre : List UInt8) (xs : List α) (hp : ∀ x ∈ xs, p x) (t : List UInt8) (r : Nat) : ∀ k, k ≤ xs.length →
  (((xs.take k).flatMap enc).length ≤ r → run dec (pre ++ ((xs.flatMap enc).take r ++ t)) (pre.length : Int) k = (xs.take k, ((pre.length + ((xs.take k).flatMap enc).length : Nat) : Int), 0)) ∨ False
 | 0, _ => .inl fun _ => by simp [run]
 | k + 1, hk => by
  have ih := (run_cut hc pre xs hp t r k omQ).resolve_right id
  refine .inl fun hr => ?_
  have hlt : k < xs.length := by omega
  have e1 := flat_take_succ (enc := enc) xs k hlt
  rw [e1, List.length_append] at hr
  have ih := ih omQ
  rw [run_succ, ih]
  dsimp only
  rw [if_neg (by simp), Int.toNat_natCast]
  have g1 : ((xs.take k).flatMap enc).take r = (xs.take k).flatMap enc := List.take_of_length_le omQ
  have g2 : (enc xs[k]).take (r - ((xs.take k).flatMap enc).length) = enc xs[k] := List.take_of_length_le omQ
  have e2 : (pre ++ ((xs.flatMap enc).take r ++ t)).drop (pre.length + ((xs.take k).flatMap enc).length) = enc xs[k] ++ (((xs.drop (k + 1)).flatMap enc).take (r - ((xs.take k).flatMap enc).length - (enc xs[k]).length) ++ t) := by
   rw [← List.drop_drop, List.drop_left' rfl, flat_split xs k hlt, List.take_append, g1, List.take_append, g2, List.append_assoc, List.drop_left' rfl, List.append_assoc]
  rw [e2, hc.rt _ _ (hp _ (List.getElem_mem hlt)), if_neg (by simp), e1, List.length_append, List.take_succ_eq_append_getElem hlt]
  refine Prod.ext rfl (Prod.ext ?_ rfl)
  show ((pre.length + ((xs.take k).flatMap enc).length : Nat) : Int) + ((enc xs[k]).length : Int) = ((pre.length + (((xs.take k).flatMap enc).length + (enc xs[k]).length) : Nat) : Int)
  omega
theorem run_all (hc : Codec enc dec p) (pre : List UInt8) (xs : List α) (hp : ∀ x ∈ xs, p x) (t : List UInt8) :
  run dec (pre ++ (xs.flatMap enc ++ t)) (pre.length : Int) xs.length = (xs, ((pre.length + (xs.flatMap enc).length : Nat) : Int), 0) := by
 have h := (run_cut hc pre xs hp t (xs.flatMap enc).length xs.length (Nat.le_refl _)).resolve_right id
 rw [List.take_length, List.take_length] at h
 exact h (Nat.le_refl _)
theorem run_short (hc : Codec enc dec p) (pre : List UInt8) (xs : List α) (hp : ∀ x ∈ xs, p x) (r : Nat) (hr : r < (xs.flatMap enc).length) :
  (run dec (pre ++ (xs.flatMap enc).take r) (pre.length : Int) xs.length).2.2 = 3 := by
 have hex : ∃ k, k < xs.length ∧ ((xs.take k).flatMap enc).length ≤ r ∧ r < ((xs.take (k + 1)).flatMap enc).length := by
  have key : ∀ n, n ≤ xs.length → r < ((xs.take n).flatMap enc).length → ∃ k, k < n ∧ ((xs.take k).flatMap enc).length ≤ r ∧ r < ((xs.take (k + 1)).flatMap enc).length := by
   intro n
   induction n with
   | zero => intro _ h; simp at h
   | succ n ih =>
    intro hn h
    rcases Nat.lt_or_ge r ((xs.take n).flatMap enc).length with h1 | h1
    ·obtain ⟨k, hk, h2⟩ := ih omQ h1
     exact ⟨k, by omega, h2⟩
    ·exact ⟨n, by omega, h1, h⟩
  obtain ⟨k, hk, h⟩ := key xs.length (Nat.le_refl _) (by rw [List.take_length]; exact hr)
  exact ⟨k, hk, h⟩
 obtain ⟨k, hk, h1, h2⟩ := hex
 have h3 := (run_cut hc pre xs hp [] r k omQ).resolve_right id h1
 rw [List.append_nil] at h3
 have e1 := flat_take_succ (enc := enc) xs k hk
 rw [e1, List.length_append] at h2
 have e2 : (pre ++ (xs.flatMap enc).take r).drop (pre.length + ((xs.take k).flatMap enc).length) = (enc xs[k]).take (r - ((xs.take k).flatMap enc).length) := by
  rw [← List.drop_drop, List.drop_left' rfl, flat_split xs k hk, List.take_append, List.take_of_length_le h1, List.drop_left' rfl, List.take_append_of_le_length omQ]
 have h4 : run dec (pre ++ (xs.flatMap enc).take r) (pre.length : Int) (k + 1) = ([], 0, 3) := by
  rw [run_succ, h3]
  dsimp only
  rw [if_neg (by simp), Int.toNat_natCast, e2, hc.short _ _ (hp _ (List.getElem_mem hk)) omQ]
  simp
 rw [run_err' _ _ (show k + 1 ≤ xs.length by omega) (by rw [h4]; simp), h4]
theorem run_canon (hc : Codec enc dec p) (b : List UInt8) (at0 : Nat) (h0 : at0 ≤ b.length) : ∀ k xs e, run dec b (at0 : Int) k = (xs, e, 0) → xs.length = k ∧ (∀ x ∈ xs, p x) ∧ e = ((at0 + (xs.flatMap enc).length : Nat) : Int) ∧ ∃ t, b.drop at0 = xs.flatMap enc ++ t
 | 0, xs, e, h => by
  simp only [run, Prod.mk.injEq, and_true] at h
  obtain ⟨rfl, rfl⟩ := h
  exact ⟨rfl, by simp, by simp, _, rfl⟩
 | k + 1, xs, e, h => by
  rw [run_succ] at h
  split at h
  ·rename_i h1
   rw [h] at h1
   simp at h1
  rename_i h1
  split at h
  ·rename_i h2
   simp only [Prod.mk.injEq] at h
   exact absurd h.2.2 h2
  rename_i h2
  obtain ⟨ys, q, r, hs⟩ : ∃ ys q r, run dec b (at0 : Int) k = (ys, q, r) := ⟨_, _, _, rfl⟩
  rw [hs] at h1 h2 h
  dsimp only at h1 h2 h
  obtain rfl : r = 0 := by omega
  obtain ⟨i1, i2, i3, t, i4⟩ := run_canon hc b at0 h0 k ys q hs
  subst i3
  rw [Int.toNat_natCast] at h2 h
  have e4 : b.drop (at0 + (ys.flatMap enc).length) = t := by rw [← List.drop_drop, i4, List.drop_left' rfl]
  rw [e4] at h2 h
  obtain ⟨x, m, f, hd⟩ : ∃ x m f, dec t = (x, m, f) := ⟨_, _, _, rfl⟩
  rw [hd] at h2 h
  dsimp only at h2 h
  obtain rfl : f = 0 := by omega
  obtain ⟨j1, j2, t', j3⟩ := hc.canon _ _ _ hd
  simp only [Prod.mk.injEq, and_true] at h
  obtain ⟨rfl, rfl⟩ := h
  refine ⟨by simp [i1], ?_, ?_, t', ?_⟩
  ·intro y hy
   rcases List.mem_append.1 hy with hy | hy
   ·exact i2 y hy
   ·rw [List.mem_singleton] at hy; exact hy ▸ j1
  ·rw [j2, List.flatMap_append, List.length_append]
   simp
   omega
  ·rw [i4, j3, List.flatMap_append, List.append_assoc]
   simp
def encList (enc : α → List UInt8) (xs : List α) : List UInt8 := int (xs.length : Int) ++ xs.flatMap enc
theorem list_rt (hc : Codec enc dec p) (xs : List α) (hl : xs.length < 9223372036854775808) (hp : ∀ x ∈ xs, p x) (t : List UInt8) : getList dec (encList enc xs ++ t) = (xs, ((encList enc xs).length : Int), 0) := by
 have hge := flat_ge hc xs
 have hr := run_all hc (int (xs.length : Int)) xs hp t
 unfold getList encList
 have hc1 := cnt_int 1 xs.length hl (xs.flatMap enc ++ t)
 rw [if_neg (by rw [List.length_append]; omega)] at hc1
 rw [List.append_assoc, hc1]
 dsimp only
 rw [if_neg (by simp), Int.toNat_natCast, hr, List.length_append]
theorem list_short (hc : Codec enc dec p) (xs : List α) (hl : xs.length < 9223372036854775808) (hp : ∀ x ∈ xs, p x) (i : Nat) (h : i < (encList enc xs).length) : (getList dec ((encList enc xs).take i)).2.2 = 3 := by
 unfold encList at h ⊢
 rw [List.length_append] at h
 rcases Nat.lt_or_ge i (int (xs.length : Int)).length with hi | hi
 ·rw [List.take_append_of_le_length omQ]
  unfold getList
  rw [cnt_short 1 _ _ hi]
  rfl
 ·rw [List.take_append, List.take_of_length_le hi]
  unfold getList
  rw [cnt_int 1 _ hl]
  split
  ·rfl
  ·dsimp only
   rw [if_neg (by simp), Int.toNat_natCast]
   exact run_short hc _ xs hp _ omQ
theorem list_canon (hc : Codec enc dec p) (b : List UInt8) (hb : b.length < 9223372036854775808) (xs : List α) (k : Int) (h : getList dec b = (xs, k, 0)) : (∀ x ∈ xs, p x) ∧ k = ((encList enc xs).length : Int) ∧ ∃ t, b = encList enc xs ++ t := by
 unfold getList at h
 split at h
 ·rename_i h1
  simp only [Prod.mk.injEq] at h
  exact absurd h.2.2 h1
 rename_i h1
 obtain ⟨_, h2, h3, h4, h5⟩ := cnt_ok (size := 1) (b := b) omQ
 obtain ⟨hr, hk, t, ht⟩ := getInt_canon h5
 generalize (cnt 1 b).1 = n at h h2 h3 h4 h5 hr hk ht
 generalize (cnt 1 b).2.1 = m at h h3 h4 h5 hk
 subst hk
 obtain ⟨i1, i2, i3, t', i4⟩ := run_canon hc b _ omQ _ _ _ h
 have e : ((xs.length : Nat) : Int) = n := by omega
 refine ⟨i2, ?_, t', ?_⟩
 ·unfold encList
  rw [e, i3, List.length_append]
 ·rw [ht, List.drop_left' rfl] at i4
  unfold encList
  rw [e, List.append_assoc, ← i4, ← ht]
end
theorem digs_rt (l : List (List UInt8)) (hl : l.length < 9223372036854775808) (h16 : ∀ x ∈ l, x.length = 16) (t : List UInt8) : getDigs (dgs l ++ t) = (l, ((dgs l).length : Int), 0) := by
 have hfl : l.flatten.length = 16 * l.length := by
  induction l with
  | nil => rfl
  | cons x l ih => rw [List.flatten_cons, List.length_append, h16 x (by simp), ih (by simp at hl; omega) fun y hy => h16 y (by simp [hy]), List.length_cons]; omega
 unfold getDigs dgs
 have hc1 := cnt_int 16 l.length hl (l.flatten ++ t)
 rw [if_neg (by rw [List.length_append]; omega)] at hc1
 rw [List.append_assoc, hc1]
 dsimp only
 rw [if_neg (by simp), Int.toNat_natCast, Int.toNat_natCast, List.length_append, hfl]
 refine Prod.ext ?_ (Prod.ext (by show ((int (l.length : Int)).length : Int) + 16 * (l.length : Int) = (((int (l.length : Int)).length + 16 * l.length : Nat) : Int); omega) rfl)
 show (List.range l.length).map _ = l
 have key : ∀ (l : List (List UInt8)) (t : List UInt8), (∀ x ∈ l, x.length = 16) → (List.range l.length).map (fun k => ((l.flatten ++ t).drop (16 * k)).take 16) = l := by
  intro l
  induction l with
  | nil => intro t _; rfl
  | cons x l ih =>
   intro t h
   have hx := h x (by simp)
   rw [List.length_cons, List.range_succ_eq_map, List.map_cons, List.map_map]
   refine List.cons_eq_cons.2 ⟨?_, ?_⟩
   ·rw [Nat.mul_zero, List.drop_zero, List.flatten_cons, List.append_assoc, List.take_left' hx]
   ·conv => rhs; rw [← ih t fun y hy => h y (by simp [hy])]
    apply List.map_congr_left
    intro k _
    simp only [Function.comp]
    rw [show 16 * (k + 1) = x.length + 16 * k by omega, ← List.drop_drop, List.flatten_cons, List.append_assoc, List.drop_left' rfl]
 conv => rhs; rw [← key l t h16]
 apply List.map_congr_left
 intro k _
 rw [← List.drop_drop, List.drop_left' rfl]
theorem flat16 : ∀ (l : List (List UInt8)), (∀ x ∈ l, x.length = 16) → l.flatten.length = 16 * l.length
 | [], _ => rfl
 | x :: l, h => by rw [List.flatten_cons, List.length_append, h x (by simp), flat16 l fun y hy => h y (by simp [hy]), List.length_cons]; omega
theorem digs_short (l : List (List UInt8)) (hl : l.length < 9223372036854775808) (h16 : ∀ x ∈ l, x.length = 16) (i : Nat) (h : i < (dgs l).length) : (getDigs ((dgs l).take i)).2.2 = 3 := by
 have hfl := flat16 l h16
 unfold dgs at h ⊢
 rw [List.length_append] at h
 rcases Nat.lt_or_ge i (int (l.length : Int)).length with hi | hi
 ·rw [List.take_append_of_le_length omQ]
  unfold getDigs
  rw [cnt_short 16 _ _ hi]
  rfl
 ·rw [List.take_append, List.take_of_length_le hi]
  have hc1 := cnt_int 16 l.length hl (l.flatten.take (i - (int (l.length : Int)).length))
  rw [if_pos (by rw [List.length_take]; omega)] at hc1
  unfold getDigs
  rw [hc1]
  rfl
theorem digs_canon (b : List UInt8) (hb : b.length < 9223372036854775808) (l : List (List UInt8)) (k : Int) (h : getDigs b = (l, k, 0)) : (∀ x ∈ l, x.length = 16) ∧ k = ((dgs l).length : Int) ∧ ∃ t, b = dgs l ++ t := by
 unfold getDigs at h
 split at h
 ·rename_i h1
  simp only [Prod.mk.injEq] at h
  exact absurd h.2.2 h1
 rename_i h1
 obtain ⟨_, h2, h3, h4, h5⟩ := cnt_ok (size := 16) (b := b) omQ
 obtain ⟨hr, hk, t, ht⟩ := getInt_canon h5
 generalize (cnt 16 b).1 = n at h h2 h3 h4 h5 hr hk ht
 generalize (cnt 16 b).2.1 = m at h h3 h4 h5 hk
 subst hk
 simp only [Prod.mk.injEq, and_true] at h
 obtain ⟨rfl, rfl⟩ := h
 have hbl := congrArg List.length ht
 rw [List.length_append] at hbl
 rw [Int.toNat_natCast]
 have hm : ∀ x ∈ (List.range n.toNat).map (fun k => (b.drop ((int n).length + 16 * k)).take 16), x.length = 16 := by
  intro x hx
  obtain ⟨k, hk, rfl⟩ := List.mem_map.1 hx
  rw [List.mem_range] at hk
  rw [List.length_take, List.length_drop]
  omega
 have hf := flat16 _ hm
 rw [List.length_map, List.length_range] at hf
 have e : (((List.range n.toNat).map (fun k => (b.drop ((int n).length + 16 * k)).take 16)).length : Int) = n := by rw [List.length_map, List.length_range]; omega
 have hflat : ((List.range n.toNat).map (fun k => (b.drop ((int n).length + 16 * k)).take 16)).flatten = t.take (16 * n.toNat) := by
  have : ∀ j, j ≤ n.toNat → ((List.range j).map (fun k => (b.drop ((int n).length + 16 * k)).take 16)).flatten = t.take (16 * j) := by
   intro j
   induction j with
   | zero => intro _; simp
   | succ j ih =>
    intro hj
    rw [List.range_succ, List.map_append, List.flatten_append, ih omQ]
    simp only [List.map_cons, List.map_nil, List.flatten_cons, List.flatten_nil, List.append_nil]
    rw [ht, ← List.drop_drop, List.drop_left' rfl, show 16 * (j + 1) = 16 * j + 16 by omega, List.take_add]
  exact this _ (Nat.le_refl _)
 refine ⟨hm, ?_, t.drop (16 * n.toNat), ?_⟩
 ·unfold dgs
  rw [e, List.length_append, hf]
  omega
 ·unfold dgs
  rw [e, hflat, List.append_assoc, List.take_append_drop]
  exact ht
end Wi
end Go.Fw
end

section
namespace Go.Fw
namespace Ls
def encT {α : Type} (enc : α → List UInt8) (xs : List α) (i : Nat) : List UInt8 := Wi.int (xs.length : Int) ++ (xs.take i).flatMap enc
theorem encT_0 {α : Type} (enc : α → List UInt8) (xs : List α) : encT enc xs 0 = Wi.int (xs.length : Int) := by simp [encT]
theorem encT_all {α : Type} (enc : α → List UInt8) (xs : List α) : encT enc xs xs.length = Wi.int (xs.length : Int) ++ xs.flatMap enc := by simp [encT]
theorem encT_step {α : Type} (enc : α → List UInt8) (d : α) (xs : List α) (i : Nat) (h : i < xs.length) : encT enc xs i ++ enc (xs.getD i d) = encT enc xs (i + 1) := by
 unfold encT
 rw [List.take_succ_eq_append_getElem h, List.flatMap_append, List.append_assoc, List.getD_eq_getElem?_getD, List.getElem?_eq_getElem h]
 simp
theorem encT_len {α : Type} (enc : α → List UInt8) (xs : List α) (B : Nat) (hB : ∀ x ∈ xs, (enc x).length ≤ B) (i : Nat) : (encT enc xs i).length ≤ 9 + xs.length * B := by
 unfold encT
 have h1 := Wi.int_len9 (xs.length : Int)
 have h2 : ∀ (l : List α), (∀ x ∈ l, (enc x).length ≤ B) → (l.flatMap enc).length ≤ l.length * B := by
  intro l
  induction l with
  | nil => intro _; simp
  | cons x l ih =>
   intro h
   have := ih fun y hy => h y (by simp [hy])
   have := h x (by simp)
   rw [List.flatMap_cons, List.length_append, List.length_cons, Nat.add_mul]
   omega
 have h3 := h2 (xs.take i) fun x hx => hB x (List.mem_of_mem_take hx)
 have h4 : (xs.take i).length * B ≤ xs.length * B := Nat.mul_le_mul_right _ (by rw [List.length_take]; omega)
 rw [List.length_append]
 omega
end Ls
end Go.Fw
end

section
namespace Go.Fw
namespace Wi
theorem getInt_cons (h : UInt8) (t : List UInt8) : getInt (h :: t) = if 8 < (h ^^^ flipOf h).toNat - 128 then (0, 0, 2)
  else if t.length < (h ^^^ flipOf h).toNat - 128 then (0, 0, 3)
  else if 0 < (h ^^^ flipOf h).toNat - 128 ∧ t.getD 0 0 ^^^ flipOf h = 0 then (0, 0, 2)
  else if 9223372036854775808 ≤ valBE ((t.take ((h ^^^ flipOf h).toNat - 128)).map (· ^^^ flipOf h)) then (0, 0, 2)
  else (if flipOf h = 0 then (valBE ((t.take ((h ^^^ flipOf h).toNat - 128)).map (· ^^^ flipOf h)) : Int) else -1 - (valBE ((t.take ((h ^^^ flipOf h).toNat - 128)).map (· ^^^ flipOf h)) : Int), (((h ^^^ flipOf h).toNat - 128 : Nat) : Int) + 1, 0) := rfl
section
variable {h : UInt8} {t : List UInt8} {K : Nat} {fl : UInt8}
theorem gi_big (hfl : fl = flipOf h) (hK : K = (h ^^^ fl).toNat - 128) (h8 : 8 < K) : getInt (h :: t) = (0, 0, 2) := by
 rw [getInt_cons, ← hfl, ← hK, if_pos h8]
theorem gi_more (hfl : fl = flipOf h) (hK : K = (h ^^^ fl).toNat - 128) (h8 : ¬ 8 < K) (hl : t.length < K) : getInt (h :: t) = (0, 0, 3) := by
 rw [getInt_cons, ← hfl, ← hK, if_neg h8, if_pos hl]
theorem gi_zero (hfl : fl = flipOf h) (hK : K = (h ^^^ fl).toNat - 128) (h8 : ¬ 8 < K) (hl : ¬ t.length < K) (h0 : 0 < K ∧ t.getD 0 0 ^^^ fl = 0) : getInt (h :: t) = (0, 0, 2) := by
 rw [getInt_cons, ← hfl, ← hK, if_neg h8, if_neg hl, if_pos h0]
theorem gi_high (hfl : fl = flipOf h) (hK : K = (h ^^^ fl).toNat - 128) (h8 : ¬ 8 < K) (hl : ¬ t.length < K) (hm : 9223372036854775808 ≤ valBE ((t.take K).map (· ^^^ fl))) : getInt (h :: t) = (0, 0, 2) := by
 rw [getInt_cons, ← hfl, ← hK, if_neg h8, if_neg hl]
 split
 ·rfl
 ·first | rfl | rw [if_pos hm]
theorem gi_ok (hfl : fl = flipOf h) (hK : K = (h ^^^ fl).toNat - 128) (h8 : ¬ 8 < K) (hl : ¬ t.length < K) (h0 : ¬ (0 < K ∧ t.getD 0 0 ^^^ fl = 0)) (hm : ¬ 9223372036854775808 ≤ valBE ((t.take K).map (· ^^^ fl))) :
  getInt (h :: t) = (if fl = 0 then (valBE ((t.take K).map (· ^^^ fl)) : Int) else -1 - (valBE ((t.take K).map (· ^^^ fl)) : Int), (K : Int) + 1, 0) := by
 rw [getInt_cons, ← hfl, ← hK, if_neg h8, if_neg hl, if_neg h0, if_neg hm]
end
theorem gi_eq {xs : List UInt8} {a b c : Int} (h : getInt xs = (a, b, c)) : Value.tuple [vi a, vi b, vi c].toArray = .tuple [vi (getInt xs).1, vi (getInt xs).2.1, vi (getInt xs).2.2].toArray := by rw [h]
theorem valBE_snoc (l : List UInt8) (d : UInt8) : valBE (l ++ [d]) = valBE l * 256 + d.toNat := by
 unfold valBE
 rw [List.foldl_append]
 rfl
def vj (t : List UInt8) (fl : UInt8) (K j : Nat) : Nat := valBE (((t.take K).take j).map (· ^^^ fl))
theorem vj_0 (t : List UInt8) (fl : UInt8) (K : Nat) : vj t fl K 0 = 0 := by simp [vj, valBE]
theorem vj_K (t : List UInt8) (fl : UInt8) (K : Nat) : vj t fl K K = valBE ((t.take K).map (· ^^^ fl)) := by
 unfold vj
 rw [List.take_take, Nat.min_self]
theorem vj_succ (t : List UInt8) (fl : UInt8) (K j : Nat) (hj : j < K) (hl : K ≤ t.length) : vj t fl K (j + 1) = vj t fl K j * 256 + (t.getD j 0 ^^^ fl).toNat := by
 unfold vj
 rw [List.take_succ_eq_append_getElem (by rw [List.length_take]; omega), List.map_append, List.map_cons, List.map_nil, valBE_snoc, List.getElem_take, List.getD_eq_getElem?_getD, List.getElem?_eq_getElem omQ]
 rfl
theorem vj_lt (t : List UInt8) (fl : UInt8) (K j : Nat) (hj : j ≤ 7) : vj t fl K j < 72057594037927936 := by
 have h1 := valBE_lt (((t.take K).take j).map (· ^^^ fl))
 have h2 : (((t.take K).take j).map (· ^^^ fl)).length ≤ 7 := by simp; omega
 have h3 : 256 ^ (((t.take K).take j).map (· ^^^ fl)).length ≤ 256 ^ 7 := Nat.pow_le_pow_right omQ h2
 have h4 : 256 ^ 7 = 72057594037927936 := by decide
 unfold vj
 omega
theorem vj_mono (t : List UInt8) (fl : UInt8) (K i : Nat) (hi : i < K) (hl : K ≤ t.length) : vj t fl K i * 256 ≤ vj t fl K K := by
 have : ∀ d, i + 1 + d ≤ K → vj t fl K i * 256 ≤ vj t fl K (i + 1 + d) := by
  intro d
  induction d with
  | zero => intro _; rw [Nat.add_zero, vj_succ t fl K i hi hl]; omega
  | succ d ih =>
   intro hd
   have := ih omQ
   rw [show i + 1 + (d + 1) = (i + 1 + d) + 1 by omega, vj_succ t fl K (i + 1 + d) omQ hl]
   omega
 have h := this (K - (i + 1)) omQ
 rwa [show i + 1 + (K - (i + 1)) = K by omega] at h
theorem shl8_or (m : UInt64) (c : UInt8) (h : m.toNat < 72057594037927936) : (ofq ((m.toNat : Int) * 2 ^ min (Int.toNat 8) 64) ||| ofq (c.toNat : Int)).toNat = m.toNat * 256 + c.toNat := by
 have h1 := ofq_toNat ((m.toNat : Int) * 2 ^ min (Int.toNat 8) 64)
 have h2 := ofq_toNat (c.toNat : Int)
 have h3 := c.toNat_lt
 have e : (2 : Int) ^ min (Int.toNat 8) 64 = 256 := by decide
 rw [e] at h1
 rw [UInt64.toNat_or, e]
 have e1 : (ofq ((m.toNat : Int) * 256)).toNat = 2 ^ 8 * m.toNat := by omega
 have e2 : (ofq (c.toNat : Int)).toNat = c.toNat := by omega
 rw [e1, e2, ← Nat.two_pow_add_eq_or_of_lt omQ]
 omega
theorem top63 (m : UInt64) : (0 : UInt64) < UInt64.ofNat (m.toNat / 2 ^ min (Int.toNat 63) 64) ↔ 9223372036854775808 ≤ m.toNat := by
 have e : 2 ^ min (Int.toNat 63) 64 = 9223372036854775808 := by decide
 rw [e, UInt64.lt_iff_toNat_lt, UInt64.toNat_ofNat', Nat.mod_eq_of_lt (Nat.lt_of_le_of_lt (Nat.div_le_self _ _) (by have := m.toNat_lt; omega))]
 show 0 < _ ↔ _
 omega
theorem sgn_small (m : UInt64) (h : ¬ 9223372036854775808 ≤ m.toNat) : sgn m = m.toNat := by
 unfold sgn; rw [if_pos omQ]
theorem sgn_not (m : UInt64) (h : ¬ 9223372036854775808 ≤ m.toNat) : sgn (~~~m) = -1 - (m.toNat : Int) := by
 have e : (~~~m).toNat = 18446744073709551615 - m.toNat := by rw [UInt64.toNat_not]; rfl
 have := m.toNat_lt
 unfold sgn
 rw [e, if_neg omQ]
 omega
theorem fl_pos {fl : UInt8} (h : fl = 0 ∨ fl = 255) : 0 < fl ↔ ¬ fl = 0 := by
 rcases h with rfl | rfl <;> decide
theorem take_K {h : UInt8} {t : List UInt8} {K : Nat} : (((h :: t).take ((K : Int) + 1).toNat).drop (1 : Int).toNat) = t.take K := by
 rw [show ((K : Int) + 1).toNat = K + 1 by omega, show (1 : Int).toNat = 1 from rfl]
 rfl
theorem ref_ok {xs : List UInt8} {n : Int} {K : Nat} (hn : -9223372036854775808 ≤ n ∧ n ≤ 9223372036854775807) (hl : K + 1 ≤ xs.length) (h : int n = xs.take (K + 1)) : getInt xs = (n, (K : Int) + 1, 0) := by
 have e : xs = int n ++ xs.drop (K + 1) := by rw [h, List.take_append_drop]
 have hk : (int n).length = K + 1 := by rw [h, List.length_take]; omega
 rw [e, getInt_int n hn, hk]
 rfl
theorem ref_bad {h : UInt8} {t : List UInt8} {K : Nat} {fl : UInt8} {n : Int} (hfl : fl = flipOf h) (hK : K = (h ^^^ fl).toNat - 128) (h8 : ¬ 8 < K) (hl : ¬ t.length < K) (hm : ¬ 9223372036854775808 ≤ vj t fl K K) (hn : n = if fl = 0 then (vj t fl K K : Int) else -1 - (vj t fl K K : Int)) (hne : ¬ int n = (h :: t).take (K + 1)) : getInt (h :: t) = (0, 0, 2) := by
 by_cases h0 : 0 < K ∧ t.getD 0 0 ^^^ fl = 0
 ·exact gi_zero hfl hK h8 hl h0
 ·exfalso
  rw [vj_K] at hm hn
  have hg := gi_ok hfl hK h8 hl h0 hm
  rw [← hn] at hg
  obtain ⟨_, h2, t', h3⟩ := getInt_canon hg
  apply hne
  rw [h3, List.take_left' omQ]
theorem head_flip (h : UInt8) : (h.toNat < 128 → flipOf h = 255 ∧ (h ^^^ 255).toNat - 128 = 127 - h.toNat) ∧ (¬ h.toNat < 128 → flipOf h = 0 ∧ (h ^^^ 0).toNat - 128 = h.toNat - 128) := by
 have : ∀ b : BitVec 8, ((UInt8.ofBitVec b).toNat < 128 → flipOf (UInt8.ofBitVec b) = 255 ∧ ((UInt8.ofBitVec b) ^^^ 255).toNat - 128 = 127 - (UInt8.ofBitVec b).toNat) ∧ (¬ (UInt8.ofBitVec b).toNat < 128 → flipOf (UInt8.ofBitVec b) = 0 ∧ ((UInt8.ofBitVec b) ^^^ 0).toNat - 128 = (UInt8.ofBitVec b).toNat - 128) := by decide +kernel
 exact this h.toBitVec
theorem sub_flip (d : UInt8) : (255 : Int) - (d.toNat : Int) = ((d ^^^ 255).toNat : Int) := by
 have : ∀ b : BitVec 8, (255 : Int) - ((UInt8.ofBitVec b).toNat : Int) = (((UInt8.ofBitVec b) ^^^ 255).toNat : Int) := by decide +kernel
 exact this d.toBitVec
end Wi
end Go.Fw
namespace Go.Fw
namespace Wi
def wcnt (size : Nat) (b : List UInt8) : Int × Int × Int :=
 if (getInt b).2.2 ≠ 0 then getInt b
 else if (getInt b).1 < 0 then ((getInt b).1, (getInt b).2.1, 2)
 else if ((b.length : Int) - (getInt b).2.1) / size < (getInt b).1 then ((getInt b).1, (getInt b).2.1, 3)
 else getInt b
theorem getInt_pos {b : List UInt8} (h : (getInt b).2.2 = 0) : 1 ≤ (getInt b).2.1 ∧ (getInt b).2.1 ≤ b.length ∧ (getInt b).2.1 ≤ 9 := by
 have e : getInt b = ((getInt b).1, (getInt b).2.1, 0) := by rw [← h]
 exact getInt_le e
theorem div_mul_lt (L n : Int) (s : Nat) (hs : 0 < s) (hL : 0 ≤ L) : L / s < n ↔ L < n * s := by
 have hs' : (0 : Int) < s := by omega
 exact Int.ediv_lt_iff_lt_mul hs'
theorem wcnt_cnt (s : Nat) (hs : 0 < s) (b : List UInt8) : (wcnt s b).2.2 = (cnt s b).2.2 ∧ ((cnt s b).2.2 = 0 → wcnt s b = cnt s b) := by
 unfold wcnt cnt
 split
 ·rename_i h; exact ⟨rfl, fun h2 => absurd h2 h⟩
 rename_i h
 have hp := getInt_pos (b := b) omQ
 split
 ·exact ⟨rfl, fun h2 => by simp at h2⟩
 have e := div_mul_lt ((b.length : Int) - (getInt b).2.1) (getInt b).1 s hs omQ
 by_cases h3 : ((b.length : Int) - (getInt b).2.1) / s < (getInt b).1
 ·rw [if_pos h3, if_pos (e.1 h3)]
  exact ⟨rfl, fun h2 => by simp at h2⟩
 ·rw [if_neg h3, if_neg (fun h4 => h3 (e.2 h4))]
  exact ⟨rfl, fun _ => rfl⟩
theorem wcnt_ok {s : Nat} (hs : 0 < s) {b : List UInt8} (h : (wcnt s b).2.2 = 0) : wcnt s b = cnt s b ∧ 0 ≤ (wcnt s b).1 ∧ 1 ≤ (wcnt s b).2.1 ∧ (wcnt s b).2.1 + (wcnt s b).1 * s ≤ b.length := by
 obtain ⟨h1, h2⟩ := wcnt_cnt s hs b
 rw [h1] at h
 have e := h2 h
 obtain ⟨_, h3, h4, h5, _⟩ := cnt_ok h
 rw [e]
 exact ⟨rfl, h3, h4, h5⟩
theorem wc_eq {s : Nat} {xs : List UInt8} {e : Int} (h : e = (wcnt s xs).2.2) (h1 : (wcnt s xs).1 = (getInt xs).1) (h2 : (wcnt s xs).2.1 = (getInt xs).2.1) : Value.tuple [vi (getInt xs).1, vi (getInt xs).2.1, vi e].toArray = .tuple [vi (wcnt s xs).1, vi (wcnt s xs).2.1, vi (wcnt s xs).2.2].toArray := by rw [h, h1, h2]
theorem wcnt_1 (s : Nat) (b : List UInt8) : (wcnt s b).1 = (getInt b).1 ∧ (wcnt s b).2.1 = (getInt b).2.1 := by
 unfold wcnt
 split
 ·exact ⟨rfl, rfl⟩
 split
 ·exact ⟨rfl, rfl⟩
 split <;> exact ⟨rfl, rfl⟩
theorem cn_eq {s : Nat} {xs : List UInt8} {a b c : Int} (h : cnt s xs = (a, b, c)) : Value.tuple [vi a, vi b, vi c].toArray = .tuple [vi (cnt s xs).1, vi (cnt s xs).2.1, vi (cnt s xs).2.2].toArray := by rw [h]
theorem cn_err {s : Nat} {xs : List UInt8} (h : ¬ (getInt xs).2.2 = 0) : cnt s xs = (0, 0, (getInt xs).2.2) := by unfold cnt; rw [if_pos h]
theorem cn_neg {s : Nat} {xs : List UInt8} (h : (getInt xs).2.2 = 0) (h1 : (getInt xs).1 < 0) : cnt s xs = (0, 0, 2) := by unfold cnt; rw [if_neg omQ, if_pos h1]
theorem cn_more {s : Nat} (hs : 0 < s) {xs : List UInt8} (h : (getInt xs).2.2 = 0) (h1 : ¬ (getInt xs).1 < 0) (h2 : (xs.length : Int) < (getInt xs).1 ∨ (xs.length : Int) - (getInt xs).2.1 < (getInt xs).1 * s) : cnt s xs = (0, 0, 3) := by
 have hp := getInt_pos h
 have h3 : (xs.length : Int) - (getInt xs).2.1 < (getInt xs).1 * s := by
  rcases h2 with h2 | h2
  ·have : (getInt xs).1 * 1 ≤ (getInt xs).1 * s := Int.mul_le_mul_of_nonneg_left omQ omQ
   omega
  ·exact h2
 unfold cnt; rw [if_neg omQ, if_neg h1, if_pos h3]
theorem cn_ok {s : Nat} {xs : List UInt8} (h : (getInt xs).2.2 = 0) (h1 : ¬ (getInt xs).1 < 0) (h2 : ¬ (xs.length : Int) < (getInt xs).1 ∧ ¬ (xs.length : Int) - (getInt xs).2.1 < (getInt xs).1 * s) : cnt s xs = ((getInt xs).1, (getInt xs).2.1, 0) := by
 unfold cnt; rw [if_neg omQ, if_neg h1, if_neg h2.2, ← h]
theorem gb_err {c : Int × Int × Int} {xs : List UInt8} (hc : c.2.2 = (cnt 1 xs).2.2) (h : ¬ c.2.2 = 0) : Value.tuple [vs [], vi 0, vi c.2.2].toArray = .tuple [vs (getBytes xs).1, vi (getBytes xs).2.1, vi (getBytes xs).2.2].toArray := by
 have e : getBytes xs = ([], 0, (cnt 1 xs).2.2) := by unfold getBytes; rw [if_pos (by rw [← hc]; exact h)]
 rw [e, hc]
theorem gb_ok {c : Int × Int × Int} {xs : List UInt8} (hc : c = cnt 1 xs) (h : c.2.2 = 0) (h0 : 0 ≤ c.1 ∧ 0 ≤ c.2.1) : Value.tuple [vs ((xs.take (c.2.1 + c.1).toNat).drop c.2.1.toNat), vi (c.2.1 + c.1), vi 0].toArray = .tuple [vs (getBytes xs).1, vi (getBytes xs).2.1, vi (getBytes xs).2.2].toArray := by
 subst hc
 have e : getBytes xs = ((xs.drop (cnt 1 xs).2.1.toNat).take (cnt 1 xs).1.toNat, (cnt 1 xs).2.1 + (cnt 1 xs).1, 0) := by unfold getBytes; rw [if_neg omQ]
 rw [e, List.drop_take, show ((cnt 1 xs).2.1 + (cnt 1 xs).1).toNat - (cnt 1 xs).2.1.toNat = (cnt 1 xs).1.toNat by omega]
end Wi
end Go.Fw
end

section
namespace Go.Fw
theorem Sl.nil {α : Type} {E : Enc α} {z : PH} : Sl E z (.slice none 0 0) [] := ⟨by simp, none, 0, rfl, Nat.le_refl _, fun i x h => by simp at h⟩
theorem St.zone0 {w0 : World} {zs : List PH} {hs : List Res} {w : World} (h : St w0 zs hs w) : St w0 ((fun _ => none) :: zs) hs w :=
 ⟨h.ext, fun z hz => by
  rcases List.mem_cons.1 hz with rfl | hz
  ·exact ⟨fun b o hb => by simp at hb, fun b o hb => by simp at hb⟩
  ·exact h.zone z hz, fun r hr => ⟨(h.own r hr).1, fun b hb z hz => by
  rcases List.mem_cons.1 hz with rfl | hz
  ·rfl
  ·exact (h.own r hr).2 b hb z hz⟩, h.nd, h.io⟩
theorem ret_nil {α : Type} {E : Enc α} {f : List α × Int × Int} {e : Int} (h : f = ([], 0, e)) : LsR E f (.tuple [.slice none 0 0, vi 0, vi e].toArray) [fun _ => none] [] := ⟨_, _, by rw [h], by rw [h]; exact Sl.nil, rfl, rfl⟩
theorem ret_sl {α : Type} {E : Enc α} {f : List α × Int × Int} {l : List α} {p : Int} {v : Value} {z : PH} (h : f = (l, p, 0)) (hs : Sl E z v l) : LsR E f (.tuple [v, vi p, vi 0].toArray) [z] [] := ⟨_, _, by rw [h], by rw [h]; exact hs, rfl, rfl⟩
namespace Wi
theorem getInt_bd (b : List UInt8) : 0 ≤ (getInt b).2.1 ∧ (getInt b).2.1 ≤ b.length ∧ (getInt b).2.1 ≤ 9 := by
 rcases getInt_e b with h | ⟨h, _⟩
 ·have := getInt_pos h; omega
 ·have e : (getInt b).2.1 = 0 := by rw [h]
  omega
theorem getBytes_pos {b : List UInt8} (h : (getBytes b).2.2 = 0) : 1 ≤ (getBytes b).2.1 ∧ (getBytes b).2.1 ≤ b.length ∧ (getBytes b).1.length ≤ b.length := by
 unfold getBytes at h ⊢
 split at h
 ·rename_i h1; exact absurd h h1
 rename_i h1
 rw [if_neg h1]
 obtain ⟨_, h2, h3, h4, _⟩ := cnt_ok (size := 1) (b := b) omQ
 refine ⟨by dsimp only; omega, by dsimp only; omega, ?_⟩
 dsimp only
 rw [List.length_take, List.length_drop]
 omega
section
variable {α : Type} {dec : List UInt8 → α × Int × Int}
theorem run_next {b : List UInt8} {at0 : Int} {j : Nat} {acc : List α} {at_ : Int} (h : run dec b at0 j = (acc, at_, 0)) (h1 : (dec (b.drop at_.toNat)).2.2 = 0) : run dec b at0 (j + 1) = (acc ++ [(dec (b.drop at_.toNat)).1], at_ + (dec (b.drop at_.toNat)).2.1, 0) := by
 rw [run_succ, h, if_neg (by simp), if_neg (by dsimp only; omega)]
theorem run_stop {b : List UInt8} {at0 : Int} {j n : Nat} {acc : List α} {at_ : Int} (h : run dec b at0 j = (acc, at_, 0)) (h1 : ¬ (dec (b.drop at_.toNat)).2.2 = 0) (hj : j < n) : run dec b at0 n = ([], 0, (dec (b.drop at_.toNat)).2.2) := by
 have e : run dec b at0 (j + 1) = ([], 0, (dec (b.drop at_.toNat)).2.2) := by
  rw [run_succ, h, if_neg (by simp)]
  dsimp only
  rw [if_pos h1]
 rw [run_err' _ _ (show j + 1 ≤ n by omega) (by rw [e]; exact h1), e]
theorem getList_err {b : List UInt8} (h : ¬ (cnt 1 b).2.2 = 0) : getList dec b = ([], 0, (cnt 1 b).2.2) := by unfold getList; rw [if_pos h]
theorem getList_run {b : List UInt8} (h : (cnt 1 b).2.2 = 0) : getList dec b = run dec b (cnt 1 b).2.1 (cnt 1 b).1.toNat := by unfold getList; rw [if_neg omQ]
theorem getList_stop {b : List UInt8} (h : (cnt 1 b).2.2 = 0) {j : Int} (hj0 : 0 ≤ j) {acc : List α} {at_ : Int} (hr : run dec b (cnt 1 b).2.1 j.toNat = (acc, at_, 0)) (h1 : ¬ (dec (b.drop at_.toNat)).2.2 = 0) (hj : j < (cnt 1 b).1) : getList dec b = ([], 0, (dec (b.drop at_.toNat)).2.2) := by
 rw [getList_run h]
 exact run_stop hr h1 omQ
theorem getList_end {b : List UInt8} (h : (cnt 1 b).2.2 = 0) {j : Int} (hj0 : 0 ≤ j) {acc : List α} {at_ : Int} (hr : run dec b (cnt 1 b).2.1 j.toNat = (acc, at_, 0)) (h1 : j ≤ (cnt 1 b).1) (hj : ¬ j < (cnt 1 b).1) : getList dec b = (acc, at_, 0) := by
 rw [getList_run h, ← hr, show (cnt 1 b).1.toNat = j.toNat by omega]
theorem run_range {enc : α → List UInt8} {p : α → Prop} (hc : Codec enc dec p) {b : List UInt8} {at0 : Int} (h0 : 0 ≤ at0 ∧ at0 ≤ b.length) {j : Nat} {acc : List α} {at_ : Int} (hr : run dec b at0 j = (acc, at_, 0)) : acc.length = j ∧ ∀ x ∈ acc, p x := by
 obtain ⟨n, rfl⟩ := Int.eq_ofNat_of_zero_le h0.1
 have := run_canon hc b n omQ j acc at_ hr
 exact ⟨this.1, this.2.1⟩
end
end Wi
end Go.Fw
namespace Go.Fw
namespace Wi
theorem mem_flat_le {α : Type} (enc : α → List UInt8) {xs : List α} {x : α} (h : x ∈ xs) : (enc x).length ≤ (xs.flatMap enc).length := by
 induction xs with
 | nil => cases h
 | cons y xs ih =>
  rw [List.flatMap_cons, List.length_append]
  rcases List.mem_cons.1 h with rfl | h
  ·omega
  ·have := ih h; omega
theorem str_small {b : List UInt8} {at0 : Int} (h0 : 0 ≤ at0 ∧ at0 ≤ b.length) {j : Nat} {acc : List (List UInt8)} {at_ : Int} (hr : run getBytes b at0 j = (acc, at_, 0)) : ∀ x ∈ acc, x.length ≤ b.length := by
 obtain ⟨n, rfl⟩ := Int.eq_ofNat_of_zero_le h0.1
 obtain ⟨_, _, _, t, h4⟩ := run_canon codec_bytes b n omQ j acc at_ hr
 intro x hx
 have h1 := mem_flat_le bytes hx
 have h2 := congrArg List.length h4
 rw [List.length_drop, List.length_append] at h2
 have h3 : x.length ≤ (bytes x).length := by unfold bytes; rw [List.length_append]; omega
 omega
def dgL (b : List UInt8) (a j : Nat) : List (List UInt8) := (List.range j).map fun k => (b.drop (a + 16 * k)).take 16
theorem dgL_len (b : List UInt8) (a j : Nat) : (dgL b a j).length = j := by simp [dgL]
theorem dgL_succ (b : List UInt8) (a j : Nat) : dgL b a (j + 1) = dgL b a j ++ [(b.drop (a + 16 * j)).take 16] := by
 unfold dgL
 rw [List.range_succ, List.map_append]
 rfl
theorem dgL_16 (b : List UInt8) (a j : Nat) (h : a + 16 * j ≤ b.length) : ∀ x ∈ dgL b a j, x.length = 16 := by
 intro x hx
 unfold dgL at hx
 obtain ⟨k, hk, rfl⟩ := List.mem_map.1 hx
 rw [List.mem_range] at hk
 rw [List.length_take, List.length_drop]
 omega
theorem getDigs_err {b : List UInt8} (h : ¬ (cnt 16 b).2.2 = 0) : getDigs b = ([], 0, (cnt 16 b).2.2) := by unfold getDigs; rw [if_pos h]
theorem getDigs_ok {b : List UInt8} (h : (cnt 16 b).2.2 = 0) {j : Int} (h1 : j = (cnt 16 b).1) : getDigs b = (dgL b (cnt 16 b).2.1.toNat j.toNat, (cnt 16 b).2.1 + 16 * j, 0) := by
 subst h1
 unfold getDigs dgL
 rw [if_neg omQ]
end Wi
theorem flat_cells {l : List (List UInt8)} (h : ∀ x ∈ l, x.length = 16) {i : Nat} {x : List UInt8} (hx : l[i]? = some x) (j : Nat) (u : Value) (hu : (x.map vb)[j]? = some u) : (l.flatMap (fun y => y.map vb))[i * 16 + j]? = some u := by
 induction l generalizing i with
 | nil => simp at hx
 | cons y l ih =>
  rw [List.flatMap_cons]
  have hy := h y (by simp)
  cases i with
  | zero =>
   simp only [List.getElem?_cons_zero, Option.some.injEq] at hx
   subst hx
   have hj : j < (y.map vb).length := (List.getElem?_eq_some_iff.1 hu).1
   rw [Nat.zero_mul, Nat.zero_add, List.getElem?_append_left hj]
   exact hu
  | succ i =>
   rw [List.getElem?_append_right (by simp [hy]; omega)]
   have := ih (fun z hz => h z (by simp [hz])) (by simpa using hx)
   rw [List.length_map, hy, show (i + 1) * 16 + j - 16 = i * 16 + j by omega]
   exact this
theorem St.freezeAw {w0 : World} {zs : List PH} {hs : List Res} {w : World} {e : TypeId} {v : Value} {m : Nat} {l : List (List UInt8)} (h : St w0 zs (.row v e 16 m (l.flatMap (fun y => y.map vb)) :: hs) w) (hm : m = l.length) (hb : m ≤ 140737488355328) (h16 : ∀ x ∈ l, x.length = 16) : ∃ z, Sl (encA 16) z v l ∧ St w0 (z :: zs) hs w :=
 St.freeze (E := encA 16) h (z' := fun _ => none) (.inl rfl) hm hb fun i x hx => ⟨x.map vb, ⟨h16 x (List.mem_of_getElem? hx), rfl⟩, fun j u hu => flat_cells h16 hx j u hu⟩
section
variable {P : Program} {n : Nat} {w0 : World} {zs : List PH} {hs : List Res} {L : List (Nat × Value)} {d : Option Tmp} {ty t t' : TypeId} {pos : String} {af : Array Edge} {g : Option (Nat × Bool)}
variable {x y c : Operand} {u v : Value}
end
end Go.Fw
namespace Go.Fw
theorem Ls.take_snoc {α : Type} (d : α) {l : List α} {i : Nat} (h : i < l.length) : l.take (i + 1) = l.take i ++ [l.getD i d] := by
 rw [List.take_succ_eq_append_getElem h, List.getD_eq_getElem?_getD, List.getElem?_eq_getElem h]
 rfl
end Go.Fw
namespace Go.Fw
end Go.Fw
end

section
namespace Go.Fw
namespace Wi
def Rg (n : Int) : Prop := -9223372036854775808 ≤ n ∧ n ≤ 9223372036854775807
end Wi
end Go.Fw
end

section
namespace Go.Fw
namespace Wi
theorem canon_of {α : Type} {enc : α → List UInt8} {xs : List UInt8} {f : α × Int × Int} (hc : f = (f.1, f.2.1, 0) → f.2.1 = ((enc f.1).length : Int) ∧ ∃ t, xs = enc f.1 ++ t) (h : f.2.2 = 0) : 0 ≤ f.2.1 ∧ f.2.1 ≤ xs.length ∧ enc f.1 = xs.take f.2.1.toNat := by
 obtain ⟨h1, t, h2⟩ := hc (by rw [← h])
 refine ⟨by omega, by rw [h1, h2, List.length_append]; omega, ?_⟩
 rw [h1, Int.toNat_natCast]
 conv => rhs; rw [h2]
 rw [List.take_left' rfl]
theorem canon_ints {xs : List UInt8} (hx : xs.length ≤ 140737488355328) (h : (getList getInt xs).2.2 = 0) : 0 ≤ (getList getInt xs).2.1 ∧ (getList getInt xs).2.1 ≤ xs.length ∧ ints (getList getInt xs).1 = xs.take (getList getInt xs).2.1.toNat :=
 canon_of (enc := ints) (fun e => (list_canon codec_int xs omQ _ _ e).2) h
theorem canon_strs {xs : List UInt8} (hx : xs.length ≤ 140737488355328) (h : (getList getBytes xs).2.2 = 0) : 0 ≤ (getList getBytes xs).2.1 ∧ (getList getBytes xs).2.1 ≤ xs.length ∧ strs (getList getBytes xs).1 = xs.take (getList getBytes xs).2.1.toNat :=
 canon_of (enc := strs) (fun e => (list_canon codec_bytes xs omQ _ _ e).2) h
theorem canon_digs {xs : List UInt8} (hx : xs.length ≤ 140737488355328) (h : (getDigs xs).2.2 = 0) : 0 ≤ (getDigs xs).2.1 ∧ (getDigs xs).2.1 ≤ xs.length ∧ dgs (getDigs xs).1 = xs.take (getDigs xs).2.1.toNat :=
 canon_of (enc := dgs) (fun e => (digs_canon xs omQ _ _ e).2) h
theorem getList_len {α : Type} {enc : α → List UInt8} {dec : List UInt8 → α × Int × Int} {p : α → Prop} (hc : Codec enc dec p) (he : ∀ b, (dec b).2.2 = 0 ∨ True) (xs : List UInt8) (hx : xs.length ≤ 140737488355328) : (getList dec xs).1.length ≤ xs.length ∧ ∀ x ∈ (getList dec xs).1, (enc x).length ≤ xs.length := by
 by_cases h : (getList dec xs).2.2 = 0
 ·have e : getList dec xs = ((getList dec xs).1, (getList dec xs).2.1, 0) := by rw [← h]
  obtain ⟨_, _, t, h2⟩ := list_canon hc xs omQ _ _ e
  have h3 := flat_ge hc (getList dec xs).1
  have h4 := congrArg List.length h2
  unfold encList at h4
  simp only [List.length_append] at h4
  refine ⟨by omega, fun x hx => ?_⟩
  have := mem_flat_le enc hx
  omega
 ·have e : (getList dec xs).1 = [] := by
   unfold getList at h ⊢
   split
   ·rfl
   ·rename_i h1
    rw [if_neg h1] at h
    have key : ∀ n, ¬ (run dec xs (cnt 1 xs).2.1 n).2.2 = 0 → (run dec xs (cnt 1 xs).2.1 n).1 = [] := by
     intro n
     induction n with
     | zero => intro h; simp [run] at h
     | succ n ih =>
      intro h
      rw [run_succ] at h ⊢
      split
      ·rename_i h2; exact ih h2
      ·rename_i h2
       rw [if_neg h2] at h
       split
       ·rfl
       ·rename_i h3
        rw [if_neg h3] at h
        simp at h
    exact key _ h
  rw [e]
  simp
end Wi
end Go.Fw
namespace Go.Fw
namespace Wi
theorem flatMap_le {α : Type} (enc : α → List UInt8) (B : Nat) (l : List α) (h : ∀ x ∈ l, (enc x).length ≤ B) : (l.flatMap enc).length ≤ l.length * B := by
 induction l with
 | nil => simp
 | cons x l ih =>
  have h1 := ih fun y hy => h y (by simp [hy])
  have h2 := h x (by simp)
  rw [List.flatMap_cons, List.length_append, List.length_cons, Nat.add_mul]
  omega
theorem ints_len2 (l : List Int) : (ints l).length ≤ 9 + l.length * 9 := by
 have h1 := flatMap_le int 9 l fun x _ => (int_len9 x).2
 have h2 := int_len9 (l.length : Int)
 unfold ints
 rw [List.length_append]
 omega
theorem by_le (p : List UInt8) : p.length ≤ (bytes p).length := by unfold bytes; rw [List.length_append]; omega
end Wi
end Go.Fw
end

section
namespace Go.Fw
namespace Wi
theorem strs_len9 {n : Nat} (l : List (List UInt8)) (hp : ∀ p ∈ l, p.length ≤ n) : (strs l).length ≤ 9 + l.length * (n + 9) := by
 have h1 := flatMap_le bytes (n + 9) l fun x hx => by
  have := hp x hx
  have := int_len9 (x.length : Int)
  unfold bytes
  rw [List.length_append]
  omega
 have h2 := int_len9 (l.length : Int)
 unfold strs
 rw [List.length_append]
 omega
theorem dgs_len9 (l : List (List UInt8)) (h16 : ∀ x ∈ l, x.length = 16) : (dgs l).length ≤ 9 + l.length * 16 := by
 have hfl := flat16 l h16
 have h2 := int_len9 (l.length : Int)
 unfold dgs
 rw [List.length_append]
 omega
theorem ints_rtt (l : List Int) (hl : l.length < 9223372036854775808) (hp : ∀ x ∈ l, -9223372036854775808 ≤ x ∧ x ≤ 9223372036854775807) (t : List UInt8) : getList getInt (ints l ++ t) = (l, ((ints l).length : Int), 0) := list_rt codec_int l hl hp t
theorem strs_rtt (l : List (List UInt8)) (hl : l.length < 9223372036854775808) (hp : ∀ x ∈ l, x.length < 9223372036854775808) (t : List UInt8) : getList getBytes (strs l ++ t) = (l, ((strs l).length : Int), 0) := list_rt codec_bytes l hl hp t
theorem ints_sh (l : List Int) (hl : l.length < 9223372036854775808) (hp : ∀ x ∈ l, -9223372036854775808 ≤ x ∧ x ≤ 9223372036854775807) (i : Nat) (h : i < (ints l).length) : (getList getInt ((ints l).take i)).2.2 = 3 := list_short codec_int l hl hp i h
theorem strs_sh (l : List (List UInt8)) (hl : l.length < 9223372036854775808) (hp : ∀ x ∈ l, x.length < 9223372036854775808) (i : Nat) (h : i < (strs l).length) : (getList getBytes ((strs l).take i)).2.2 = 3 := list_short codec_bytes l hl hp i h
end Wi
end Go.Fw
end
