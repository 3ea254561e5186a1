/- A text of a proof over this seat: walks over the program's functions and the plain laws that they need. -/
set_option linter.all false
/-! sums of many sectors at once: lanes of 64 bits in one number -/
namespace Hx
noncomputable section
abbrev FB : Type := Nat → Nat → Nat → Nat → Nat → Nat → Nat → Nat → Nat
abbrev FA : Type := Nat → Nat → Nat → Nat → Nat → Nat → Nat → Nat → (w0 w1 w2 w3 w4 w5 w6 w7 w8 w9 w10 w11 w12 w13 w14 w15 : Nat) → (Nat → Nat → Nat → Nat → Nat → Nat → Nat → Nat → Nat) → Nat
/-- a round of the second block -/
def stpB (o m kt : Nat) (_ : List Nat) (ih : FB) (a b c d e f g h : Nat) : Nat :=
  (fun t => ih (Nat.land (Nat.add t (Nat.add (Nat.land (Nat.xor (Nat.xor (Nat.shiftRight (Nat.mul a 4294967297) 2) (Nat.shiftRight (Nat.mul a 4294967297) 13)) (Nat.shiftRight (Nat.mul a 4294967297) 22)) m) (Nat.xor (Nat.land (Nat.xor a b) (Nat.xor b c)) b))) m) a b c (Nat.land (Nat.add d t) m) e f g) (Nat.add (Nat.add (Nat.add h (Nat.mul o kt)) (Nat.land (Nat.xor (Nat.xor (Nat.shiftRight (Nat.mul e 4294967297) 6) (Nat.shiftRight (Nat.mul e 4294967297) 11)) (Nat.shiftRight (Nat.mul e 4294967297) 25)) m)) (Nat.xor g (Nat.land e (Nat.xor f g))))
/-- the rounds of the second block: the words are the same in all lanes -/
def rndB (o m : Nat) (ks : List Nat) : FB := List.rec (motive := fun _ => FB) (fun a _ _ _ _ _ _ _ => a) (stpB o m) ks
/-- a round of the first block, with its schedule -/
def stpA (o m kt : Nat) (_ : List Nat) (ih : FA) (a b c d e f g h w0 w1 w2 w3 w4 w5 w6 w7 w8 w9 w10 w11 w12 w13 w14 w15 : Nat) (k : Nat → Nat → Nat → Nat → Nat → Nat → Nat → Nat → Nat) : Nat :=
  (fun t => ih (Nat.land (Nat.add t (Nat.add (Nat.land (Nat.xor (Nat.xor (Nat.shiftRight (Nat.mul a 4294967297) 2) (Nat.shiftRight (Nat.mul a 4294967297) 13)) (Nat.shiftRight (Nat.mul a 4294967297) 22)) m) (Nat.xor (Nat.land (Nat.xor a b) (Nat.xor b c)) b))) m) a b c (Nat.land (Nat.add d t) m) e f g w1 w2 w3 w4 w5 w6 w7 w8 w9 w10 w11 w12 w13 w14 w15 (Nat.land (Nat.add (Nat.add w0 (Nat.land (Nat.xor (Nat.xor (Nat.shiftRight (Nat.mul w1 4294967297) 7) (Nat.shiftRight (Nat.mul w1 4294967297) 18)) (Nat.shiftRight w1 3)) m)) (Nat.add w9 (Nat.land (Nat.xor (Nat.xor (Nat.shiftRight (Nat.mul w14 4294967297) 17) (Nat.shiftRight (Nat.mul w14 4294967297) 19)) (Nat.shiftRight w14 10)) m))) m) k) (Nat.add (Nat.add (Nat.add h (Nat.add w0 (Nat.mul o kt))) (Nat.land (Nat.xor (Nat.xor (Nat.shiftRight (Nat.mul e 4294967297) 6) (Nat.shiftRight (Nat.mul e 4294967297) 11)) (Nat.shiftRight (Nat.mul e 4294967297) 25)) m)) (Nat.xor g (Nat.land e (Nat.xor f g))))
/-- the rounds of the first block -/
def rndA (o m : Nat) (ks : List Nat) : FA := List.rec (motive := fun _ => FA) (fun a b c d e f g h _ _ _ _ _ _ _ _ _ _ _ _ _ _ _ _ k => k a b c d e f g h) (stpA o m) ks
def KA : List Nat := [1116352408, 1899447441, 3049323471, 3921009573, 961987163, 1508970993, 2453635748, 2870763221, 3624381080, 310598401, 607225278, 1426881987, 1925078388, 2162078206, 2614888103, 3248222580, 3835390401, 4022224774, 264347078, 604807628, 770255983, 1249150122, 1555081692, 1996064986, 2554220882, 2821834349, 2952996808, 3210313671, 3336571891, 3584528711, 113926993, 338241895, 666307205, 773529912, 1294757372, 1396182291, 1695183700, 1986661051, 2177026350, 2456956037, 2730485921, 2820302411, 3259730800, 3345764771, 3516065817, 3600352804, 4094571909, 275423344, 430227734, 506948616, 659060556, 883997877, 958139571, 1322822218, 1537002063, 1747873779, 1955562222, 2024104815, 2227730452, 2361852424, 2428436474, 2756734187, 3204031479, 3329325298]
def KB : List Nat := [1116352408, 1899447441, 3049323471, 3921009573, 961987163, 1508970993, 2453635748, 2870763221, 3624381080, 310598401, 607225278, 1426881987, 1925078388, 2162078206, 2614888103, 3248223028, 3835390401, 4036380550, 264347078, 604821571, 770255983, 1751770295, 1555082140, 2465847542, 2582532434, 3392951297, 2953038637, 3603535790, 716409896, 3736225882, 1396677915, 591581744, 2242624329, 275915938, 380118253, 418151520, 1563406242, 465755204, 4197198771, 2138652164, 3006480791, 3777317601, 412851218, 2357841639, 1879552395, 1018018693, 621430818, 2872124696, 1158303443, 13132699, 3325307288, 3418649235, 2049058666, 788237445, 1661915629, 3859848591, 1028110950, 3998022584, 1577465327, 2529848997, 1544448704, 646972621, 2838023793]
def ad (o m x c : Nat) : Nat := Nat.land (Nat.add x (Nat.mul o c)) m
/-- word 1 of the sum, in all lanes -/
def sums (o m w0 w1 : Nat) (p : Nat → Nat) : Nat :=
  rndA o m KA (Nat.mul o 1779033703) (Nat.mul o 3144134277) (Nat.mul o 1013904242) (Nat.mul o 2773480762) (Nat.mul o 1359893119) (Nat.mul o 2600822924) (Nat.mul o 528734635) (Nat.mul o 1541459225)
    w0 w1 (Nat.mul o (p 0)) (Nat.mul o (p 1)) (Nat.mul o (p 2)) (Nat.mul o (p 3)) (Nat.mul o (p 4)) (Nat.mul o (p 5)) (Nat.mul o (p 6)) (Nat.mul o (p 7)) (Nat.mul o (p 8)) (Nat.mul o (p 9)) (Nat.mul o (p 10)) (Nat.mul o (p 11)) (Nat.mul o 2147483648) (Nat.mul o 0)
    (fun a b c d e f g h => Nat.land (Nat.add (rndB o m KB (ad o m a 1779033703) (ad o m b 3144134277) (ad o m c 1013904242) (ad o m d 2773480762) (ad o m e 1359893119) (ad o m f 2600822924) (ad o m g 528734635) (ad o m h 1541459225)) (ad o m b 3144134277)) m)
/-- ones in n lanes -/
def ones (n : Nat) : Nat := Nat.div (Nat.sub (Nat.pow 2 (Nat.mul 64 n)) 1) 18446744073709551615
/-- twelve groups of lanes -/
def cat (l : Nat) (f : Nat → Nat) : Nat → Nat := Nat.rec (motive := fun _ => Nat) 0 (fun n ih => Nat.add ih (Nat.mul (f n) (Nat.pow 2 (Nat.mul l n))))
/-- 0, 1, 2, .. in the lanes -/
def iota (om l : Nat) : Nat := Nat.mod (Nat.mul (Nat.mul om om) 18446744073709551616) (Nat.pow 2 l)
/-- the sums of sectors of the records 1 to 12: M of each, the second word of each in w1 -/
def grp (M l om w1 : Nat) (p : Nat → Nat) : Nat :=
  (fun o => sums o (Nat.mul o 4294967295) (cat l (fun n => Nat.mul om (Nat.mul (Nat.succ n) 16777216)) 12) (cat l (fun _ => Nat.mod w1 (Nat.pow 2 l)) 12) p) (ones (Nat.mul 12 M))
/-- no lane of group a is that of group b -/
def ne (l om h a b : Nat) : Bool :=
  Nat.beq (Nat.land (Nat.add (Nat.land (Nat.xor (Nat.shiftRight h (Nat.mul l a)) (Nat.shiftRight h (Nat.mul l b))) (Nat.mul om 4294967295)) (Nat.mul om 4294967295)) (Nat.mul om 4294967296)) (Nat.mul om 4294967296)
def edges : List (Nat × Nat) := [(1, 2), (3, 4), (5, 6), (7, 8), (9, 10), (0, 2), (3, 5), (4, 6), (7, 9), (8, 10), (0, 4), (1, 5), (2, 6), (7, 11), (0, 8), (1, 9), (2, 10), (3, 11)]
def allL (f : Nat × Nat → Bool) (es : List (Nat × Nat)) : Bool := List.rec (motive := fun _ => Bool) true (fun p _ ih => Bool.rec false ih (f p)) es
def neAll (l om h : Nat) : Bool := allL (fun p => ne l om h p.1 p.2) edges
def byte (s x i : Nat) : Nat := Bool.rec 0 (Nat.mod (Nat.add s i) 256) (Nat.blt i x)
/-- the payload's words: x bytes from s on -/
def pw (s x t : Nat) : Nat := (fun i => Nat.add (Nat.mul (byte s x i) 16777216) (Nat.add (Nat.mul (byte s x (Nat.add i 1)) 65536) (Nat.add (Nat.mul (byte s x (Nat.add i 2)) 256) (byte s x (Nat.add i 3))))) (Nat.mul 4 t)
/-- sectors that are full: lengths from lo on, part k -/
def full (s k lo : Nat) : Bool :=
  (fun om => neAll 8704 om (grp 136 8704 om ((fun z => Nat.add (Nat.mul om (Nat.mul k 16777216)) (Nat.add (Nat.mul (Nat.land z (Nat.mul om 255)) 256) (Nat.land (Nat.shiftRight z 8) (Nat.mul om 255)))) (Nat.add (Nat.mul om lo) (iota om 8704))) (pw s 48))) (ones 136)
/-- last sectors: x bytes, parts 0 .. 98 -/
def tail (s x : Nat) : Bool :=
  (fun om => neAll 6336 om (grp 99 6336 om (Nat.add (Nat.mul (iota om 6336) 16777216) (Nat.mul om (Nat.mul x 256))) (pw s x))) (ones 99)
/-- how many chunks a part has -/
def nch (k : Nat) : Nat := Nat.div (Nat.sub 4840 (Nat.mul 48 k)) 136
def chkF (s a b : Nat) : Bool := Bool.rec (full s (Nat.sub 98 a) (Nat.add 48 (Nat.mul 136 (Nat.sub b (nch a))))) (full s a (Nat.add 48 (Nat.mul 136 b))) (Nat.blt b (nch a))
def C (n : Nat) : Bool := (fun s i => Bool.rec (Bool.rec true (tail s (Nat.sub i 1800)) (Nat.blt i 1848)) (chkF s (Nat.div i 36) (Nat.mod i 36)) (Nat.blt i 1800)) (Nat.div n 2048) (Nat.mod n 2048)
inductive T : Nat → Nat → Prop
  | leaf {n : Nat} : C n = true → T n 0
  | node {n d : Nat} : T (Nat.mul 2 n) d → T (Nat.succ (Nat.mul 2 n)) d → T n (Nat.succ d)
end
end Hx
