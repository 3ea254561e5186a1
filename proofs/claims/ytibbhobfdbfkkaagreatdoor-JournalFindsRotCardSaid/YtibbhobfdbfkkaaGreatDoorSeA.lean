/- A text of a proof over this seat: walks over the program's functions and the plain laws that they need. -/
import Derived.Test.YtibbhobfdbfkkaaGreatDoorShW
import Derived.Test.YtibbhobfdbfkkaaGreatDoorSiA
set_option linter.all false
section
/- The hash over numbers, for the kernel. -/
namespace Go.Fw
namespace Sha
/-- A number, then what follows. -/
def fc {α : Type} (x : Nat) (k : Nat → α) : α := match x with
  | 0 => k 0
  | Nat.succ n => k (Nat.succ n)
theorem fc_eq {α : Type} (x : Nat) (k : Nat → α) : fc x k = k x := by cases x <;> rfl
def g1 (e : Nat) : Nat := fc (Nat.mul e 4294967297) fun y => Nat.xor (Nat.xor (Nat.shiftRight y 6) (Nat.shiftRight y 11)) (Nat.shiftRight y 25)
def g0 (e : Nat) : Nat := fc (Nat.mul e 4294967297) fun y => Nat.xor (Nat.xor (Nat.shiftRight y 2) (Nat.shiftRight y 13)) (Nat.shiftRight y 22)
def z0 (x : Nat) : Nat := fc (Nat.mul x 4294967297) fun y => Nat.xor (Nat.xor (Nat.shiftRight y 7) (Nat.shiftRight y 18)) (Nat.shiftRight x 3)
def z1 (x : Nat) : Nat := fc (Nat.mul x 4294967297) fun y => Nat.xor (Nat.xor (Nat.shiftRight y 17) (Nat.shiftRight y 19)) (Nat.shiftRight x 10)
/-- One round. -/
def rndN {α : Type} (kw a b c d e f g h : Nat) (k : Nat → Nat → Nat → Nat → Nat → Nat → Nat → Nat → α) : α :=
  fc (Nat.add (Nat.add (Nat.add h (g1 e)) (Nat.xor g (Nat.land e (Nat.xor f g)))) kw) fun x =>
  fc (Nat.mod (Nat.add x (Nat.add (g0 a) (Nat.xor (Nat.land (Nat.xor a b) c) (Nat.land a b)))) 4294967296) fun a' =>
  fc (Nat.mod (Nat.add d x) 4294967296) fun e' => k a' a b c e' e f g
/-- The rounds: a list of constants, and a window of sixteen words. -/
def roundsN {α : Type} : List Nat → (w0 w1 w2 w3 w4 w5 w6 w7 w8 w9 wa wb wc wd we wf : Nat) → (a b c d e f g h : Nat) → (Nat → Nat → Nat → Nat → Nat → Nat → Nat → Nat → α) → α
  | [], _, _, _, _, _, _, _, _, _, _, _, _, _, _, _, _, a, b, c, d, e, f, g, h, k => k a b c d e f g h
  | q :: qs, w0, w1, w2, w3, w4, w5, w6, w7, w8, w9, wa, wb, wc, wd, we, wf, a, b, c, d, e, f, g, h, k =>
    rndN (Nat.add q w0) a b c d e f g h fun a b c d e f g h =>
    fc (Nat.mod (Nat.add (Nat.add (Nat.add w0 (z0 w1)) w9) (z1 we)) 4294967296) fun w =>
    roundsN qs w1 w2 w3 w4 w5 w6 w7 w8 w9 wa wb wc wd we wf w a b c d e f g h k
def kcN : List Nat := [1116352408, 1899447441, 3049323471, 3921009573, 961987163, 1508970993, 2453635748, 2870763221, 3624381080, 310598401, 607225278, 1426881987, 1925078388, 2162078206, 2614888103, 3248222580, 3835390401, 4022224774, 264347078, 604807628, 770255983, 1249150122, 1555081692, 1996064986, 2554220882, 2821834349, 2952996808, 3210313671, 3336571891, 3584528711, 113926993, 338241895, 666307205, 773529912, 1294757372, 1396182291, 1695183700, 1986661051, 2177026350, 2456956037, 2730485921, 2820302411, 3259730800, 3345764771, 3516065817, 3600352804, 4094571909, 275423344, 430227734, 506948616, 659060556, 883997877, 958139571, 1322822218, 1537002063, 1747873779, 1955562222, 2024104815, 2227730452, 2361852424, 2428436474, 2756734187, 3204031479, 3329325298]
/-- The word of a number of so many bits. -/
def wd (n sh : Nat) : Nat := Nat.mod (Nat.shiftRight n sh) 4294967296
def j2 (a b : Nat) : Nat := Nat.add (Nat.mul a 4294967296) b
def compN (s b : Nat) : Nat :=
  fc s fun s => fc b fun b =>
  fc (wd b 480) fun w0 => fc (wd b 448) fun w1 => fc (wd b 416) fun w2 => fc (wd b 384) fun w3 =>
  fc (wd b 352) fun w4 => fc (wd b 320) fun w5 => fc (wd b 288) fun w6 => fc (wd b 256) fun w7 =>
  fc (wd b 224) fun w8 => fc (wd b 192) fun w9 => fc (wd b 160) fun wa => fc (wd b 128) fun wb =>
  fc (wd b 96) fun wc => fc (wd b 64) fun wd' => fc (wd b 32) fun we => fc (wd b 0) fun wf =>
  fc (wd s 224) fun a => fc (wd s 192) fun b => fc (wd s 160) fun c => fc (wd s 128) fun d =>
  fc (wd s 96) fun e => fc (wd s 64) fun f => fc (wd s 32) fun g => fc (wd s 0) fun h =>
  roundsN kcN w0 w1 w2 w3 w4 w5 w6 w7 w8 w9 wa wb wc wd' we wf a b c d e f g h fun a' b' c' d' e' f' g' h' =>
    j2 (j2 (j2 (j2 (j2 (j2 (j2 (wd (Nat.add a a') 0) (wd (Nat.add b b') 0)) (wd (Nat.add c c') 0)) (wd (Nat.add d d') 0)) (wd (Nat.add e e') 0)) (wd (Nat.add f f') 0)) (wd (Nat.add g g') 0)) (wd (Nat.add h h') 0)
def iniN : Nat := 0x6a09e667bb67ae853c6ef372a54ff53a510e527f9b05688c1f83d9ab5be0cd19
def it : Nat → Nat → Nat
  | 0, s => s
  | n + 1, s => fc (compN iniN (Nat.mul s (Nat.pow 2 256))) fun s => it n s
end Sha
end Go.Fw
end

section
namespace Go.Fw
namespace Sha
/-- Two to the 512. -/
def b512 : Nat := Nat.pow 256 64
/-- The blocks of a text of so many, from a state. -/
def sN (M : Nat) : Nat → Nat → Nat
  | 0, s => s
  | k + 1, s => fc (compN s (Nat.mod (Nat.shiftRight M (Nat.mul 512 k)) b512)) fun s => sN M k s
def hN (v len : Nat) : Nat :=
  fc (zerosFor len) fun z => fc (Nat.add (Nat.add (Nat.mul v (Nat.pow 256 (Nat.add 9 z))) (Nat.mul 128 (Nat.pow 256 (Nat.add 8 z)))) (Nat.mul 8 len)) fun M => sN M (Nat.div (Nat.add len (Nat.add 9 z)) 64) iniN
def ofN (pre : List UInt8) (v l : Nat) : Nat := fc (Wi.valBE pre) fun p => Nat.shiftRight (hN (Nat.add (Nat.mul p (Nat.pow 256 l)) v) (pre.length + l)) 128
end Sha
namespace Si
open Sha
def stpN (i c t : Int) (v : Nat) : Nat := ofN (1 :: (Wi.bytes (Wi.ints [i, c, t]) ++ Wi.int 16)) v 16
def advN (i c a : Int) (v : Nat) : Nat → Nat
  | 0 => v
  | n + 1 => fc (advN i c a v n) fun v => stpN i c (a + (n : Int)) v
theorem t1 : Wi.valBE (1 :: (Wi.bytes (Wi.ints [1, 5, 2]) ++ Wi.int 16)) < 2 ^ 300 := by decide +kernel
end Si
end Go.Fw
end

section
/- The hash over numbers is the hash. -/
namespace Go.Fw
namespace Sha
theorem or_add {a b n : Nat} (h : b < 2 ^ n) : a * 2 ^ n ||| b = a * 2 ^ n + b := by
  rw [← Nat.shiftLeft_eq, ← Nat.shiftLeft_add_eq_or_of_lt h]
theorem rotr_nat (x : UInt32) (k : Nat) (h0 : 0 < k) (h1 : k < 32) : (rotr x (UInt32.ofNat k)).toNat = x.toNat % 2 ^ k * 2 ^ (32 - k) + x.toNat / 2 ^ k := by
  have hx := x.toNat_lt
  have e1 : (UInt32.ofNat k).toNat = k := by rw [UInt32.toNat_ofNat']; exact Nat.mod_eq_of_lt (by omega)
  have e2 : ((32 : UInt32) - UInt32.ofNat k).toNat = 32 - k := by rw [UInt32.toNat_sub, e1]; show (2 ^ 32 - k + 32) % 2 ^ 32 = _; omega
  have hd : x.toNat / 2 ^ k < 2 ^ (32 - k) := by
    rw [Nat.div_lt_iff_lt_mul (Nat.pow_pos (by decide)), ← Nat.pow_add, show 32 - k + k = 32 by omega]; exact hx
  have hm : (x.toNat * 2 ^ (32 - k)) % 2 ^ 32 = x.toNat % 2 ^ k * 2 ^ (32 - k) := by
    rw [show (2 : Nat) ^ 32 = 2 ^ k * 2 ^ (32 - k) by rw [← Nat.pow_add, show k + (32 - k) = 32 by omega], Nat.mul_mod_mul_right]
  unfold rotr
  rw [UInt32.toNat_or, UInt32.toNat_shiftRight, UInt32.toNat_shiftLeft, e1, e2, Nat.mod_eq_of_lt (show k < 32 from h1), Nat.mod_eq_of_lt (show 32 - k < 32 by omega), Nat.shiftRight_eq_div_pow, Nat.shiftLeft_eq, hm, Nat.or_comm, or_add hd]
theorem rm (x k : Nat) (hk : k ≤ 32) (hx : x < 4294967296) : x * 4294967297 / 2 ^ k % 4294967296 = x % 2 ^ k * 2 ^ (32 - k) + x / 2 ^ k := by
  have hp : 0 < 2 ^ k := Nat.pow_pos (by decide)
  have hq : 0 < 2 ^ (32 - k) := Nat.pow_pos (by decide)
  have e2 : 2 ^ k * 2 ^ (32 - k) = 4294967296 := by rw [← Nat.pow_add, show k + (32 - k) = 32 by omega]
  have e1 : x * 4294967297 = 2 ^ k * (x * 2 ^ (32 - k)) + x := by
    rw [Nat.mul_left_comm, e2]; omega
  have e3 : x * 2 ^ (32 - k) = x % 2 ^ k * 2 ^ (32 - k) + 4294967296 * (x / 2 ^ k) := by
    have h := Nat.mod_add_div x (2 ^ k)
    calc x * 2 ^ (32 - k) = (x % 2 ^ k + 2 ^ k * (x / 2 ^ k)) * 2 ^ (32 - k) := by rw [h]
      _ = x % 2 ^ k * 2 ^ (32 - k) + 2 ^ k * 2 ^ (32 - k) * (x / 2 ^ k) := by rw [Nat.add_mul, Nat.mul_right_comm]
      _ = _ := by rw [e2]
  have hd : x / 2 ^ k < 2 ^ (32 - k) := by rw [Nat.div_lt_iff_lt_mul hp, Nat.mul_comm, e2]; exact hx
  have hm : x % 2 ^ k + 1 ≤ 2 ^ k := Nat.mod_lt _ hp
  have hm2 : (x % 2 ^ k + 1) * 2 ^ (32 - k) ≤ 2 ^ k * 2 ^ (32 - k) := Nat.mul_le_mul_right _ hm
  rw [e2, Nat.add_mul, Nat.one_mul] at hm2
  rw [e1, Nat.mul_add_div hp, e3]
  omega
theorem xm (a b : Nat) : Nat.xor a b % 4294967296 = Nat.xor (a % 4294967296) (b % 4294967296) := Nat.xor_mod_two_pow (n := 32)
theorem x32 (a b : UInt32) : Nat.xor a.toNat b.toNat = (a ^^^ b).toNat := (UInt32.toNat_xor a b).symm
theorem a32 (a b : UInt32) : Nat.land a.toNat b.toNat = (a &&& b).toNat := (UInt32.toNat_and a b).symm
theorem sr (a k : Nat) : Nat.shiftRight a k = a / 2 ^ k := Nat.shiftRight_eq_div_pow a k
theorem g1_eq (e : UInt32) : g1 e.toNat % 4294967296 = (big1 e).toNat := by
  have h1 := rotr_nat e 6 (by decide) (by decide)
  have h2 := rotr_nat e 11 (by decide) (by decide)
  have h3 := rotr_nat e 25 (by decide) (by decide)
  have hx := e.toNat_lt
  unfold g1 big1
  rw [fc_eq, xm, xm, sr, sr, sr, ← x32, ← x32]
  show Nat.xor (Nat.xor _ _) _ = Nat.xor (Nat.xor (rotr e (UInt32.ofNat 6)).toNat (rotr e (UInt32.ofNat 11)).toNat) (rotr e (UInt32.ofNat 25)).toNat
  rw [h1, h2, h3]
  congr 1
  · congr 1
    · exact rm _ 6 (by decide) hx
    · exact rm _ 11 (by decide) hx
  · exact rm _ 25 (by decide) hx
theorem g0_eq (e : UInt32) : g0 e.toNat % 4294967296 = (big0 e).toNat := by
  have h1 := rotr_nat e 2 (by decide) (by decide)
  have h2 := rotr_nat e 13 (by decide) (by decide)
  have h3 := rotr_nat e 22 (by decide) (by decide)
  have hx := e.toNat_lt
  unfold g0 big0
  rw [fc_eq, xm, xm, sr, sr, sr, ← x32, ← x32]
  show Nat.xor (Nat.xor _ _) _ = Nat.xor (Nat.xor (rotr e (UInt32.ofNat 2)).toNat (rotr e (UInt32.ofNat 13)).toNat) (rotr e (UInt32.ofNat 22)).toNat
  rw [h1, h2, h3]
  congr 1
  · congr 1
    · exact rm _ 2 (by decide) hx
    · exact rm _ 13 (by decide) hx
  · exact rm _ 22 (by decide) hx
theorem z0_eq (e : UInt32) : z0 e.toNat % 4294967296 = (s0 e).toNat := by
  have h1 := rotr_nat e 7 (by decide) (by decide)
  have h2 := rotr_nat e 18 (by decide) (by decide)
  have hx := e.toNat_lt
  unfold z0 s0
  rw [fc_eq, xm, xm, sr, sr, sr, ← x32, ← x32]
  have h3 : (e >>> (3 : UInt32)).toNat = e.toNat / 8 := by rw [UInt32.toNat_shiftRight, Nat.shiftRight_eq_div_pow]; rfl
  show Nat.xor (Nat.xor _ _) _ = Nat.xor (Nat.xor (rotr e (UInt32.ofNat 7)).toNat (rotr e (UInt32.ofNat 18)).toNat) _
  rw [h1, h2, h3]
  congr 1
  · congr 1
    · exact rm _ 7 (by decide) hx
    · exact rm _ 18 (by decide) hx
  · show e.toNat / 8 % 4294967296 = e.toNat / 8; omega
theorem z1_eq (e : UInt32) : z1 e.toNat % 4294967296 = (s1 e).toNat := by
  have h1 := rotr_nat e 17 (by decide) (by decide)
  have h2 := rotr_nat e 19 (by decide) (by decide)
  have hx := e.toNat_lt
  unfold z1 s1
  rw [fc_eq, xm, xm, sr, sr, sr, ← x32, ← x32]
  have h3 : (e >>> (10 : UInt32)).toNat = e.toNat / 1024 := by rw [UInt32.toNat_shiftRight, Nat.shiftRight_eq_div_pow]; rfl
  show Nat.xor (Nat.xor _ _) _ = Nat.xor (Nat.xor (rotr e (UInt32.ofNat 17)).toNat (rotr e (UInt32.ofNat 19)).toNat) _
  rw [h1, h2, h3]
  congr 1
  · congr 1
    · exact rm _ 17 (by decide) hx
    · exact rm _ 19 (by decide) hx
  · show e.toNat / 1024 % 4294967296 = e.toNat / 1024; omega
theorem ch_eq (e f g : UInt32) : g ^^^ (e &&& (f ^^^ g)) = (e &&& f) ^^^ (~~~e &&& g) := by
  apply UInt32.toBitVec_inj.1
  simp only [UInt32.toBitVec_xor, UInt32.toBitVec_and, UInt32.toBitVec_not]
  apply BitVec.eq_of_getElem_eq
  intro i hi
  simp only [BitVec.getElem_xor, BitVec.getElem_and, BitVec.getElem_not]
  cases e.toBitVec[i] <;> cases f.toBitVec[i] <;> cases g.toBitVec[i] <;> rfl
theorem maj_eq (a b c : UInt32) : ((a ^^^ b) &&& c) ^^^ (a &&& b) = (a &&& b) ^^^ (a &&& c) ^^^ (b &&& c) := by
  apply UInt32.toBitVec_inj.1
  simp only [UInt32.toBitVec_xor, UInt32.toBitVec_and]
  apply BitVec.eq_of_getElem_eq
  intro i hi
  simp only [BitVec.getElem_xor, BitVec.getElem_and]
  cases a.toBitVec[i] <;> cases b.toBitVec[i] <;> cases c.toBitVec[i] <;> rfl
end Sha
end Go.Fw
end

section
namespace Go.Fw
namespace Sha
open Wi (valBE foldBE valBE_cons)
def sw (b : List UInt8) (t : Nat) : UInt32 := (sch b (t + 1)).getD t 0
theorem sch_add (b : List UInt8) (t : Nat) : ∀ n, ∃ l, sch b (t + n) = sch b t ++ l
  | 0 => ⟨[], by simp⟩
  | n + 1 => by
    obtain ⟨l, h⟩ := sch_add b t n
    rw [← Nat.add_assoc, sch]
    exact ⟨l ++ _, by rw [h, List.append_assoc]⟩
theorem sch_get (b : List UInt8) {t n : Nat} (h : t < n) : (sch b n).getD t 0 = sw b t := by
  obtain ⟨l, hl⟩ := sch_add b (t + 1) (n - (t + 1))
  rw [show t + 1 + (n - (t + 1)) = n by omega] at hl
  unfold sw
  rw [hl, List.getD_eq_getElem?_getD, List.getD_eq_getElem?_getD, List.getElem?_append_left (by rw [sch_len]; omega)]
theorem sw_eq (b : List UInt8) (t : Nat) : sw b t = if t < 16 then word b t else (sch b t).getD (t - 16) 0 + s0 ((sch b t).getD (t - 15) 0) + (sch b t).getD (t - 7) 0 + s1 ((sch b t).getD (t - 2) 0) := by
  unfold sw
  rw [sch, List.getD_eq_getElem?_getD, List.getElem?_append_right (by rw [sch_len]; omega), sch_len, Nat.sub_self]
  rfl
theorem sw_lt (b : List UInt8) {t : Nat} (h : t < 16) : sw b t = word b t := by rw [sw_eq, if_pos h]
theorem sw_16 (b : List UInt8) (t : Nat) : sw b (t + 16) = sw b t + s0 (sw b (t + 1)) + sw b (t + 9) + s1 (sw b (t + 14)) := by
  rw [sw_eq, if_neg (by omega), sch_get b (by omega), sch_get b (by omega), sch_get b (by omega), sch_get b (by omega)]
  rfl
def rl (b : List UInt8) : List UInt32 → Nat → S8 → S8
  | [], _, s => s
  | q :: qs, t, s => rl b qs (t + 1) (rnd s q (sw b t))
def kS {α : Type} (k : Nat → Nat → Nat → Nat → Nat → Nat → Nat → Nat → α) (s : S8) : α := match s with
  | (a, b, c, d, e, f, g, h) => k a.toNat b.toNat c.toNat d.toNat e.toNat f.toNat g.toNat h.toNat
theorem a2 (a b : Nat) : Nat.add a b = a + b := rfl
theorem m2 (a : Nat) : Nat.mod a 4294967296 = a % 4294967296 := rfl
theorem rndN_eq {α : Type} (k : Nat → Nat → Nat → Nat → Nat → Nat → Nat → Nat → α) (q w a b c d e f g h : UInt32) :
    rndN (Nat.add q.toNat w.toNat) a.toNat b.toNat c.toNat d.toNat e.toNat f.toNat g.toNat h.toNat k = kS k (rnd (a, b, c, d, e, f, g, h) q w) := by
  have h1 := g1_eq e
  have h2 := g0_eq a
  unfold rndN kS rnd
  simp only [fc_eq]
  rw [x32 f g, a32 e (f ^^^ g), x32, ch_eq, x32 a b, a32, a32, x32, maj_eq]
  simp only [UInt32.toNat_add, a2, m2, ← h1, ← h2]
  congr 1 <;> omega
theorem roundsN_eq {α : Type} (k : Nat → Nat → Nat → Nat → Nat → Nat → Nat → Nat → α) (bb : List UInt8) : ∀ (qs : List UInt32) (t : Nat) (a b c d e f g h : UInt32),
    roundsN (qs.map UInt32.toNat) (sw bb t).toNat (sw bb (t + 1)).toNat (sw bb (t + 2)).toNat (sw bb (t + 3)).toNat (sw bb (t + 4)).toNat (sw bb (t + 5)).toNat (sw bb (t + 6)).toNat (sw bb (t + 7)).toNat (sw bb (t + 8)).toNat (sw bb (t + 9)).toNat (sw bb (t + 10)).toNat (sw bb (t + 11)).toNat (sw bb (t + 12)).toNat (sw bb (t + 13)).toNat (sw bb (t + 14)).toNat (sw bb (t + 15)).toNat a.toNat b.toNat c.toNat d.toNat e.toNat f.toNat g.toNat h.toNat k = kS k (rl bb qs t (a, b, c, d, e, f, g, h))
  | [], t, a, b, c, d, e, f, g, h => rfl
  | q :: qs, t, a, b, c, d, e, f, g, h => by
    have hw : Nat.mod (Nat.add (Nat.add (Nat.add (sw bb t).toNat (z0 (sw bb (t + 1)).toNat)) (sw bb (t + 9)).toNat) (z1 (sw bb (t + 14)).toNat)) 4294967296 = (sw bb (t + 16)).toNat := by
      have h1 := z0_eq (sw bb (t + 1))
      have h2 := z1_eq (sw bb (t + 14))
      rw [sw_16]
      simp only [UInt32.toNat_add, a2, m2, ← h1, ← h2]
      omega
    rw [List.map_cons, roundsN, rndN_eq]
    simp only [fc_eq, hw]
    have ih := roundsN_eq k bb qs (t + 1)
    unfold kS rnd
    simp only
    rw [rl]
    exact ih _ _ _ _ _ _ _ _
theorem rl_snoc (b : List UInt8) (q : UInt32) : ∀ (l : List UInt32) (t : Nat) (s : S8), rl b (l ++ [q]) t s = rnd (rl b l t s) q (sw b (t + l.length))
  | [], t, s => rfl
  | x :: l, t, s => by
    rw [List.cons_append, rl, rl_snoc b q l, rl, List.length_cons, show t + 1 + l.length = t + (l.length + 1) by omega]
theorem kc_len : kc.length = 64 := rfl
theorem rounds_rl (b : List UInt8) (s : S8) : ∀ n, n ≤ 64 → rounds (sch b 64) s n = rl b (kc.take n) 0 s
  | 0, _ => rfl
  | n + 1, h => by
    have hk : kc.take (n + 1) = kc.take n ++ [kc.getD n 0] := by
      rw [List.take_succ_eq_append_getElem (by rw [kc_len]; omega), List.getD_eq_getElem?_getD, List.getElem?_eq_getElem (by rw [kc_len]; omega)]; rfl
    rw [rounds, rounds_rl b s n (by omega), hk, rl_snoc, List.length_take, kc_len, Nat.min_eq_left (by omega), Nat.zero_add, sch_get b (by omega)]
theorem kcN_eq : kcN = kc.map UInt32.toNat := by decide +kernel
end Sha
end Go.Fw
end

section
namespace Go.Fw
namespace Sha
open Wi (valBE foldBE valBE_cons digsFrom digit val_digs)
theorem valBE_app (x y : List UInt8) : valBE (x ++ y) = valBE x * 256 ^ y.length + valBE y := by
  unfold valBE
  rw [List.foldl_append, foldBE]; rfl
theorem valBE_lt : ∀ y : List UInt8, valBE y < 256 ^ y.length
  | [] => by decide
  | c :: y => by
    have h := valBE_lt y
    have hc := c.toNat_lt
    rw [valBE_cons, List.length_cons, Nat.pow_succ]
    have h2 : c.toNat * 256 ^ y.length ≤ 255 * 256 ^ y.length := Nat.mul_le_mul_right _ (by omega)
    omega
theorem p256 (k : Nat) : 256 ^ k = 2 ^ (8 * k) := by rw [Nat.pow_mul]
/-- The number of a state. -/
def stN (l : List UInt32) : Nat := l.foldl (fun a x => a * 4294967296 + x.toNat) 0
def b4 (w : UInt32) : List UInt8 := [UInt8.ofNat (w.toNat / 2 ^ 24), UInt8.ofNat (w.toNat / 2 ^ 16), UInt8.ofNat (w.toNat / 2 ^ 8), UInt8.ofNat (w.toNat / 2 ^ 0)]
theorem b4_val (w : UInt32) : valBE (b4 w) = w.toNat := by
  have := w.toNat_lt
  unfold b4 valBE
  simp only [List.foldl_cons, List.foldl_nil, UInt8.toNat_ofNat']
  omega
theorem outB_val (st : List UInt32) (h : st.length = 8) : valBE (outB st) = stN st := by
  match st, h with
  | [a, b, c, d, e, f, g, i], _ =>
    have : outB [a, b, c, d, e, f, g, i] = b4 a ++ (b4 b ++ (b4 c ++ (b4 d ++ (b4 e ++ (b4 f ++ (b4 g ++ b4 i)))))) := rfl
    rw [this]
    have hl : ∀ w, (b4 w).length = 4 := fun _ => rfl
    simp only [valBE_app, b4_val, List.length_append, hl]
    unfold stN
    simp only [List.foldl_cons, List.foldl_nil]
    omega
theorem acc4N_step (x : UInt32) (c : UInt8) (h : x.toNat < 16777216) : ((x <<< 8) ||| c.toUInt32).toNat = x.toNat * 256 + c.toNat := by
  have hc := c.toNat_lt
  rw [UInt32.toNat_or, UInt32.toNat_shiftLeft, UInt8.toNat_toUInt32, show (8 : UInt32).toNat % 32 = 8 from rfl, Nat.shiftLeft_eq, Nat.mod_eq_of_lt (by omega), or_add (by omega)]
theorem word_val (b : List UInt8) (t : Nat) : (word b t).toNat = valBE [b.getD (4 * t) 0, b.getD (4 * t + 1) 0, b.getD (4 * t + 2) 0, b.getD (4 * t + 3) 0] := by
  have h0 := (b.getD (4 * t) 0).toNat_lt
  have h1 := (b.getD (4 * t + 1) 0).toNat_lt
  have h2 := (b.getD (4 * t + 2) 0).toNat_lt
  have h3 := (b.getD (4 * t + 3) 0).toNat_lt
  have e1 : (acc4 b t 1).toNat = (b.getD (4 * t) 0).toNat := by
    rw [acc4, acc4N_step _ _ (by rw [acc4]; decide), acc4]; show 0 * 256 + _ = _; rw [Nat.add_zero]; omega
  have e2 : (acc4 b t 2).toNat = (b.getD (4 * t) 0).toNat * 256 + (b.getD (4 * t + 1) 0).toNat := by rw [acc4, acc4N_step _ _ (by omega), e1]
  have e3 : (acc4 b t 3).toNat = ((b.getD (4 * t) 0).toNat * 256 + (b.getD (4 * t + 1) 0).toNat) * 256 + (b.getD (4 * t + 2) 0).toNat := by rw [acc4, acc4N_step _ _ (by omega), e2]
  rw [← acc4_word, acc4, acc4N_step _ _ (by omega), e3]
  unfold valBE
  simp only [List.foldl_cons, List.foldl_nil]
  omega
theorem val_take (m : List UInt8) {p : Nat} (h : p ≤ m.length) : valBE (m.take p) = valBE m / 256 ^ (m.length - p) := by
  have h1 := valBE_app (m.take p) (m.drop p)
  have h2 := valBE_lt (m.drop p)
  rw [List.take_append_drop, List.length_drop] at h1
  rw [List.length_drop] at h2
  rw [h1, Nat.mul_comm, Nat.mul_add_div (Nat.pow_pos (by decide)), Nat.div_eq_of_lt h2, Nat.add_zero]
theorem val_drop (m : List UInt8) {p : Nat} (h : p ≤ m.length) : valBE (m.drop p) = valBE m % 256 ^ (m.length - p) := by
  have h1 := valBE_app (m.take p) (m.drop p)
  have h2 := valBE_lt (m.drop p)
  rw [List.take_append_drop, List.length_drop] at h1
  rw [List.length_drop] at h2
  rw [h1, Nat.mul_comm, Nat.mul_add_mod, Nat.mod_eq_of_lt h2]
theorem wd_word (b : List UInt8) (hb : b.length = 64) {t : Nat} (ht : t < 16) : wd (valBE b) (480 - 32 * t) = (sw b t).toNat := by
  rw [sw_lt b ht, word_val]
  have h1 := val_drop (b.take (4 * t + 4)) (p := 4 * t) (by rw [List.length_take]; omega)
  rw [val_take b (by omega), List.length_take, hb, Nat.min_eq_left (by omega), show 4 * t + 4 - 4 * t = 4 by omega, p256, show 8 * (64 - (4 * t + 4)) = 480 - 32 * t by omega] at h1
  unfold wd
  rw [sr]
  show _ % 4294967296 = _
  refine h1.symm.trans ?_
  congr 1
  apply List.ext_getElem (by simp; omega)
  intro i hi1 hi2
  have hi : i < 4 := hi2
  rw [List.getElem_drop, List.getElem_take]
  have hg : ∀ j (hj : j < b.length), b.getD j 0 = b[j] := fun j hj => by rw [List.getD_eq_getElem?_getD, List.getElem?_eq_getElem hj]; rfl
  match i, hi with
  | 0, _ => exact (hg (4 * t) (by omega)).symm
  | 1, _ => exact (hg (4 * t + 1) (by omega)).symm
  | 2, _ => exact (hg (4 * t + 2) (by omega)).symm
  | 3, _ => exact (hg (4 * t + 3) (by omega)).symm
theorem wd_0 (n : Nat) : wd n 0 = n % 4294967296 := rfl
theorem compN_eq (s : List UInt32) (hs : s.length = 8) (b : List UInt8) (hb : b.length = 64) : compN (stN s) (valBE b) = stN (comp s b) := by
  match s, hs with
  | [a0, a1, a2', a3, a4, a5, a6, a7], _ =>
    have l0 := a0.toNat_lt
    have l1 := a1.toNat_lt
    have l2 := a2'.toNat_lt
    have l3 := a3.toNat_lt
    have l4 := a4.toNat_lt
    have l5 := a5.toNat_lt
    have l6 := a6.toNat_lt
    have l7 := a7.toNat_lt
    have hS : stN [a0, a1, a2', a3, a4, a5, a6, a7] = ((((((a0.toNat * 4294967296 + a1.toNat) * 4294967296 + a2'.toNat) * 4294967296 + a3.toNat) * 4294967296 + a4.toNat) * 4294967296 + a5.toNat) * 4294967296 + a6.toNat) * 4294967296 + a7.toNat := by
      unfold stN; simp only [List.foldl_cons, List.foldl_nil]; omega
    have w : ∀ t, t < 16 → wd (valBE b) (480 - 32 * t) = (sw b t).toNat := fun t ht => wd_word b hb ht
    have q : ∀ k, wd (stN [a0, a1, a2', a3, a4, a5, a6, a7]) k = stN [a0, a1, a2', a3, a4, a5, a6, a7] / 2 ^ k % 4294967296 := fun k => by unfold wd; rw [sr]; rfl
    have e0 : wd (stN [a0, a1, a2', a3, a4, a5, a6, a7]) 224 = a0.toNat := by rw [q, hS]; omega
    have e1 : wd (stN [a0, a1, a2', a3, a4, a5, a6, a7]) 192 = a1.toNat := by rw [q, hS]; omega
    have e2 : wd (stN [a0, a1, a2', a3, a4, a5, a6, a7]) 160 = a2'.toNat := by rw [q, hS]; omega
    have e3 : wd (stN [a0, a1, a2', a3, a4, a5, a6, a7]) 128 = a3.toNat := by rw [q, hS]; omega
    have e4 : wd (stN [a0, a1, a2', a3, a4, a5, a6, a7]) 96 = a4.toNat := by rw [q, hS]; omega
    have e5 : wd (stN [a0, a1, a2', a3, a4, a5, a6, a7]) 64 = a5.toNat := by rw [q, hS]; omega
    have e6 : wd (stN [a0, a1, a2', a3, a4, a5, a6, a7]) 32 = a6.toNat := by rw [q, hS]; omega
    have e7 : wd (stN [a0, a1, a2', a3, a4, a5, a6, a7]) 0 = a7.toNat := by rw [q, hS]; omega
    unfold compN
    simp only [fc_eq]
    rw [e0, e1, e2, e3, e4, e5, e6, e7]
    rw [show wd (valBE b) 480 = _ from w 0 (by decide), show wd (valBE b) 448 = _ from w 1 (by decide), show wd (valBE b) 416 = _ from w 2 (by decide), show wd (valBE b) 384 = _ from w 3 (by decide), show wd (valBE b) 352 = _ from w 4 (by decide), show wd (valBE b) 320 = _ from w 5 (by decide), show wd (valBE b) 288 = _ from w 6 (by decide), show wd (valBE b) 256 = _ from w 7 (by decide),
      show wd (valBE b) 224 = _ from w 8 (by decide), show wd (valBE b) 192 = _ from w 9 (by decide), show wd (valBE b) 160 = _ from w 10 (by decide), show wd (valBE b) 128 = _ from w 11 (by decide), show wd (valBE b) 96 = _ from w 12 (by decide), show wd (valBE b) 64 = _ from w 13 (by decide), show wd (valBE b) 32 = _ from w 14 (by decide), show wd (valBE b) 0 = _ from w 15 (by decide)]
    rw [kcN_eq]
    refine (roundsN_eq _ b kc 0 _ _ _ _ _ _ _ _).trans ?_
    unfold comp
    rw [rounds_rl b _ 64 (Nat.le_refl _), show kc.take 64 = kc from rfl]
    show kS _ (rl b kc 0 (a0, a1, a2', a3, a4, a5, a6, a7)) = _
    have : s8 [a0, a1, a2', a3, a4, a5, a6, a7] = (a0, a1, a2', a3, a4, a5, a6, a7) := rfl
    rw [this]
    obtain ⟨c0, c1, c2, c3, c4, c5, c6, c7⟩ := rl b kc 0 (a0, a1, a2', a3, a4, a5, a6, a7)
    unfold kS l8 stN j2
    simp only [List.zipWith_cons_cons, List.zipWith_nil_left, List.foldl_cons, List.foldl_nil, wd_0, UInt32.toNat_add, a2]
    show _ = _
    simp only [Nat.mul_eq]
    omega
end Sha
end Go.Fw
end

section
namespace Go.Fw
namespace Sha
open Wi (valBE foldBE valBE_cons digsFrom digit val_digs)
theorem blk_val (m : List UInt8) {K k : Nat} (h : m.length = 64 * K) (hk : k < K) : Nat.mod (Nat.shiftRight (valBE m) (Nat.mul 512 k)) b512 = valBE (blkAt m (K - (k + 1))) := by
  unfold blkAt
  have h1 := val_drop (m.take (64 * (K - (k + 1)) + 64)) (p := 64 * (K - (k + 1))) (by rw [List.length_take]; omega)
  rw [val_take m (by omega), List.length_take, h, Nat.min_eq_left (by omega), show 64 * (K - (k + 1)) + 64 - 64 * (K - (k + 1)) = 64 by omega, p256 (64 * K - (64 * (K - (k + 1)) + 64)), show 8 * (64 * K - (64 * (K - (k + 1)) + 64)) = 512 * k by omega] at h1
  rw [h1, sr]
  have e : b512 = 256 ^ 64 := by decide +kernel
  show _ % b512 = _
  rw [e, Nat.mul_eq]
theorem sN_eq (m : List UInt8) {K : Nat} (h : m.length = 64 * K) : ∀ k, k ≤ K → sN (valBE m) k (stN (refS m (K - k))) = stN (refS m K)
  | 0, _ => rfl
  | k + 1, hk => by
    rw [sN, fc_eq, blk_val m h (by omega), compN_eq _ (refS_len m _) _ (blkAt_len m _ (by omega))]
    have e : comp (refS m (K - (k + 1))) (blkAt m (K - (k + 1))) = refS m (K - k) := by
      rw [show K - k = (K - (k + 1)) + 1 by omega, refS]
    rw [e]
    exact sN_eq m h k (by omega)
theorem rep_val (z : Nat) : valBE (List.replicate z 0) = 0 := by
  induction z with
  | zero => rfl
  | succ z ih => rw [List.replicate_succ, valBE_cons, ih, show (0 : UInt8).toNat = 0 from rfl, Nat.zero_mul]
theorem be8_val (n : UInt64) : valBE (be8 n) = n.toNat := by
  have e : be8 n = digsFrom n 0 8 0 := by
    unfold be8 digsFrom digit
    apply List.map_congr_left
    intro i hi
    rw [List.mem_range] at hi
    rw [show 8 * (8 - 1 - i) = 56 - 8 * i by omega]; simp
  rw [e, val_digs]
  have := n.toNat_lt
  exact Nat.mod_eq_of_lt (by omega)
theorem init_val : iniN = stN init := by decide +kernel
theorem sum_N (xs : List UInt8) (h : xs.length < 1099511627776) : valBE (sum xs) = hN (valBE xs) xs.length := by
  have hz := zeros_lt xs.length
  have hat := zeros_at xs.length
  have hq : (ofq (xs.length : Int)).toNat = xs.length := by have := ofq_toNat (xs.length : Int); omega
  have hq8 : (8 * ofq (xs.length : Int)).toNat = 8 * xs.length := by
    rw [UInt64.toNat_mul, hq]; show 8 * xs.length % 2 ^ 64 = _; omega
  have hpl := pad_at xs.length (by omega)
  have hl : (xs ++ pad (ofq (xs.length : Int))).length = 64 * ((xs.length + (9 + zerosFor xs.length)) / 64) := by
    rw [List.length_append, hpl]; omega
  have hv : valBE (xs ++ pad (ofq (xs.length : Int))) = Nat.add (Nat.add (Nat.mul (valBE xs) (Nat.pow 256 (Nat.add 9 (zerosFor xs.length)))) (Nat.mul 128 (Nat.pow 256 (Nat.add 8 (zerosFor xs.length))))) (Nat.mul 8 xs.length) := by
    rw [valBE_app, hpl]
    unfold pad
    rw [hq, valBE_cons, valBE_app, rep_val, be8_val, hq8, List.length_append, List.length_replicate, be8_len, Nat.zero_mul, Nat.zero_add, show 1 + zerosFor xs.length + 8 = 9 + zerosFor xs.length by omega, show zerosFor xs.length + 8 = 8 + zerosFor xs.length by omega, ← Nat.add_assoc]
    rfl
  rw [sum_ref xs (by omega) _ hl, outB_val _ (refS_len _ _)]
  have hs := sN_eq _ hl _ (Nat.le_refl _)
  rw [Nat.sub_self, show refS (xs ++ pad (ofq (xs.length : Int))) 0 = init from rfl, ← init_val, hv] at hs
  unfold hN
  rw [fc_eq, fc_eq]
  exact hs.symm
end Sha
end Go.Fw
end
