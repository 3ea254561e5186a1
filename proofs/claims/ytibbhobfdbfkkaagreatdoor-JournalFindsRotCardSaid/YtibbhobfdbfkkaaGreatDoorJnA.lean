/- A text of a proof over this seat: walks over the program's functions and the plain laws that they need. -/
import Derived.Test.YtibbhobfdbfkkaaGreatDoorDkA
import Derived.Test.YtibbhobfdbfkkaaGreatDoorShW
import Derived.Test.YtibbhobfdbfkkaaGreatDoorGuA
import Derived.Test.YtibbhobfdbfkkaaGreatDoorFwD
set_option linter.all false
section
/-! the journal, in plain Lean: sectors, records, what Open finds, Append -/
namespace Jn
open Go Go.Fw
/-- The least significant k bytes of a number, the least significant one first. -/
def lb (n k : Nat) : List UInt8 := (List.range k).map fun i => UInt8.ofNat (n / 256 ^ i)
/-- The number that bytes denote. -/
def nb (s : List UInt8) : Nat := s.foldr (fun c n => 256 * n + c.toNat) 0
def cnt (n : Int) : Int := if n < 0 ∨ 8000 < n then 0 else if n = 0 then 1 else (n + 47) / 48
/-- What a sector holds of what is left of a text. -/
def pay (rest : List UInt8) : List UInt8 := rest.take 48 ++ List.replicate (48 - rest.length) 0
def hd (n k : Nat) (rest : List UInt8) : List UInt8 := lb n 4 ++ lb k 2 ++ lb rest.length 2 ++ pay rest
def chk (b : List UInt8) : List UInt8 := b ++ (Sha.sum b).take 8
def sec (n : Int) (t : List UInt8) (k : Nat) : List UInt8 := chk (hd n.toNat k (t.drop (48 * k)))
def secs (n : Int) (t : List UInt8) : List (List UInt8) := (List.range (cnt t.length).toNat).map (sec n t)
def pack (n : Int) (t : List UInt8) : List (List UInt8) × Int := if n < 1 ∨ 4096 < n then ([], 1) else if 8000 < t.length then ([], 4) else (secs n t, 0)
structure Part where
  n : Int
  p : Int
  l : Int
  t : List UInt8
  ok : Bool
deriving DecidableEq
def p0 : Part := ⟨0, 0, 0, [], false⟩
def num (s : List UInt8) : Nat := nb (s.take 4)
def par (s : List UInt8) : Nat := nb (List.drop 4 (s.take 6))
def lft (s : List UInt8) : Nat := nb (List.drop 6 (s.take 8))
/-- How many bytes of the text are in a sector. -/
def inn (s : List UInt8) : Nat := min (lft s) 48
def good (s : List UInt8) : Prop :=
  s.length = 64 ∧ chk (s.take 56) = s ∧ 1 ≤ num s ∧ num s ≤ 4096 ∧ 48 * par s + lft s ≤ 8000 ∧ ¬ (lft s = 0 ∧ 0 < par s) ∧ List.drop (8 + inn s) (s.take 56) = List.replicate (48 - inn s) 0
instance (s : List UInt8) : Decidable (good s) := by unfold good; infer_instance
def unp (s : List UInt8) : Part := if good s then ⟨num s, par s, lft s, List.drop 8 (s.take (8 + inn s)), true⟩ else p0
/-! ### records -/
def mt (f : Part) (k : Nat) (q : Part) : Bool := q.ok && decide (q.n = f.n) && decide (q.p = k) && decide (q.l = f.l - 48 * k)
def mts (f : Part) : Nat → List Part → Bool
  | _, [] => true
  | k, q :: l => mt f k q && mts f (k + 1) l
def txs (l : List Part) : List UInt8 := l.flatMap (·.t)
/-- The record that begins a list of parts. -/
def recd : List Part → Option (List UInt8 × Nat)
  | [] => none
  | f :: l => if f.ok = true ∧ f.p = 0 ∧ 1 ≤ cnt f.l ∧ cnt f.l ≤ (f :: l).length ∧ mts f 0 ((f :: l).take (cnt f.l).toNat) = true then some (txs ((f :: l).take (cnt f.l).toNat), (cnt f.l).toNat) else none
abbrev Acc := List Int × List (List UInt8)
def addR (a : Acc) (n : Int) (t : List UInt8) : Acc := if n ∈ a.1 then a else (a.1 ++ [n], a.2 ++ [t])
def scanF : Nat → List Part → Acc → Acc
  | 0, _, a => a
  | _ + 1, [], a => a
  | f + 1, p :: l, a => match recd (p :: l) with
    | none => scanF f l a
    | some (t, n) => scanF f ((p :: l).drop n) (addR a p.n t)
def scan (l : List Part) (a : Acc) : Acc := scanF l.length l a
theorem recd_cons (f : Part) (l : List Part) : recd (f :: l) = if f.ok = true ∧ f.p = 0 ∧ 1 ≤ cnt f.l ∧ cnt f.l ≤ (f :: l).length ∧ mts f 0 ((f :: l).take (cnt f.l).toNat) = true then some (txs ((f :: l).take (cnt f.l).toNat), (cnt f.l).toNat) else none := rfl
theorem recd_pos {l : List Part} {t : List UInt8} {n : Nat} (h : recd l = some (t, n)) : 1 ≤ n ∧ n ≤ l.length := by
  cases l with
  | nil => cases h
  | cons f l =>
    rw [recd_cons] at h
    by_cases hc : f.ok = true ∧ f.p = 0 ∧ 1 ≤ cnt f.l ∧ cnt f.l ≤ (f :: l).length ∧ mts f 0 ((f :: l).take (cnt f.l).toNat) = true
    · rw [if_pos hc] at h
      injection h with h
      injection h with h h2
      obtain ⟨_, _, h3, h4, _⟩ := hc
      omega
    · rw [if_neg hc] at h; cases h
theorem scanF_fuel : ∀ (f g : Nat) (l : List Part) (a : Acc), l.length ≤ f → l.length ≤ g → scanF f l a = scanF g l a
  | 0, 0, _, _, _, _ => rfl
  | 0, g + 1, [], _, _, _ => rfl
  | 0, _ + 1, _ :: _, _, h, _ => by simp at h
  | f + 1, 0, [], _, _, _ => rfl
  | _ + 1, 0, _ :: _, _, _, h => by simp at h
  | f + 1, g + 1, [], a, _, _ => rfl
  | f + 1, g + 1, p :: l, a, h1, h2 => by
    have h1' : l.length ≤ f := by simpa using h1
    have h2' : l.length ≤ g := by simpa using h2
    unfold scanF
    split
    · exact scanF_fuel f g l a h1' h2'
    · rename_i t n hr
      have := recd_pos hr
      exact scanF_fuel f g _ _ (by rw [List.length_drop, List.length_cons]; omega) (by rw [List.length_drop, List.length_cons]; omega)
theorem scan_nil (a : Acc) : scan [] a = a := rfl
theorem scan_none {l : List Part} {a : Acc} (h0 : l ≠ []) (h : recd l = none) : scan l a = scan (l.drop 1) a := by
  cases l with
  | nil => exact absurd rfl h0
  | cons p l => unfold scan; rw [List.length_cons, scanF, h]; rfl
theorem scan_some {l : List Part} {a : Acc} {t : List UInt8} {n : Nat} (h : recd l = some (t, n)) : scan l a = scan (l.drop n) (addR a (l.getD 0 p0).n t) := by
  cases l with
  | nil => cases h
  | cons p l =>
    have := recd_pos h
    unfold scan
    rw [List.length_cons, scanF, h]
    exact scanF_fuel _ _ _ _ (by rw [List.length_drop, List.length_cons]; omega) (Nat.le_refl _)
/-! ### the journal -/
structure JS where
  nums : List Int
  tx : List (List UInt8)
  bad : List Int
  next : Int
  en : Int
  cl : Bool
def z64 : List UInt8 := List.replicate 64 0
/-- What stands in the sectors, as Read tells it. -/
def rds (S : Dk.Dsk) : List (List UInt8) := (List.range S.s.length).map fun (k : Nat) => (Dk.read S (k : Int)).1
def enN (l : List (List UInt8)) : Nat → Int
  | 0 => 0
  | k + 1 => if l.getD k [] = z64 then enN l k else ((k : Int) + 1)
def badN (l : List (List UInt8)) : Nat → List Int
  | 0 => []
  | k + 1 => if (unp (l.getD k [])).ok = false ∧ l.getD k [] ≠ z64 then badN l k ++ [(k : Int)] else badN l k
def nxN (l : List (List UInt8)) : Nat → Int
  | 0 => 1
  | k + 1 => max (nxN l k) ((unp (l.getD k [])).n + 1)
def ofl (l : List (List UInt8)) : JS := ⟨(scan (l.map unp) ([], [])).1, (scan (l.map unp) ([], [])).2, badN l l.length, nxN l l.length, enN l l.length, false⟩
def opn (S : Dk.Dsk) : JS := ofl (rds S)
/-- The numbers from 1 to k that are not there. -/
def dmN (l : List Int) : Nat → List Int
  | 0 => []
  | k + 1 => if (k : Int) + 1 ∈ l then dmN l k else dmN l k ++ [(k : Int) + 1]
def damaged (J : JS) : List Int := dmN J.nums (J.next - 1).toNat
def room (J : JS) (S : Dk.Dsk) : Int := S.s.length - J.en
def wrN (S : Dk.Dsk) (at_ : Int) (l : List (List UInt8)) : Nat → Dk.Dsk × Int
  | 0 => (S, 0)
  | k + 1 => if (wrN S at_ l k).2 ≠ 0 then wrN S at_ l k else Dk.write (wrN S at_ l k).1 (at_ + k) (l.getD k [])
def rdN (S : Dk.Dsk) (at_ : Int) (l : List (List UInt8)) : Nat → Int × Bool
  | 0 => (0, true)
  | k + 1 => if (rdN S at_ l k).1 ≠ 0 then rdN S at_ l k else
    if (Dk.read S (at_ + k)).2 ≠ 0 then ((Dk.read S (at_ + k)).2, false) else (0, (rdN S at_ l k).2 && decide (l.getD k [] = (Dk.read S (at_ + k)).1))
/-- Writes, flushes and reads. -/
def wfr (S : Dk.Dsk) (at_ : Int) (l : List (List UInt8)) : Dk.Dsk × Int × Bool :=
  if (wrN S at_ l l.length).2 ≠ 0 then ((wrN S at_ l l.length).1, (wrN S at_ l l.length).2, false)
  else if (Dk.flush (wrN S at_ l l.length).1).2 ≠ 0 then ((Dk.flush (wrN S at_ l l.length).1).1, (Dk.flush (wrN S at_ l l.length).1).2, false)
  else ((Dk.flush (wrN S at_ l l.length).1).1, rdN (Dk.flush (wrN S at_ l l.length).1).1 at_ l l.length)
def app (J : JS) (S : Dk.Dsk) (t : List UInt8) : JS × Dk.Dsk × Int × Int :=
  if J.cl then (J, S, 0, 23)
  else if 8000 < t.length ∨ 4096 < J.next then (J, S, 0, 4)
  else if room J S < cnt t.length then (J, S, 0, 22)
  else if (wfr S J.en (secs J.next t)).2.1 ≠ 0 then (⟨J.nums, J.tx, J.bad, J.next + 1, J.en + (secs J.next t).length, true⟩, (wfr S J.en (secs J.next t)).1, 0, (wfr S J.en (secs J.next t)).2.1)
  else if (wfr S J.en (secs J.next t)).2.2 = false then (⟨J.nums, J.tx, J.bad, J.next + 1, J.en + (secs J.next t).length, J.cl⟩, (wfr S J.en (secs J.next t)).1, 0, 24)
  else (⟨J.nums ++ [J.next], J.tx ++ [t], J.bad, J.next + 1, J.en + (secs J.next t).length, J.cl⟩, (wfr S J.en (secs J.next t)).1, J.next, 0)
/-! ### numbers -/
theorem lb_len (n k : Nat) : (lb n k).length = k := by simp [lb]
theorem lb_succ (n k : Nat) : lb n (k + 1) = lb n k ++ [UInt8.ofNat (n / 256 ^ k)] := by
  unfold lb
  rw [List.range_succ, List.map_append]; rfl
theorem nb_lt : ∀ (s : List UInt8), nb s < 256 ^ s.length
  | [] => by simp [nb]
  | c :: s => by
    have := nb_lt s
    have hc := c.toNat_lt
    show 256 * nb s + c.toNat < 256 ^ (s.length + 1)
    rw [Nat.pow_succ]; omega
theorem nb_cons (c : UInt8) (s : List UInt8) : nb (c :: s) = 256 * nb s + c.toNat := rfl
theorem cnt_rng (n : Int) : 0 ≤ cnt n ∧ cnt n ≤ 167 := by unfold cnt; split <;> (try split) <;> omega
theorem cnt_pos {n : Int} (h : 0 ≤ n ∧ n ≤ 8000) : 1 ≤ cnt n := by unfold cnt; rw [if_neg (by omega)]; split <;> omega
theorem cnt_hi {n : Int} (h : 0 ≤ n ∧ n ≤ 8000) : 48 * (cnt n - 1) ≤ n ∧ n ≤ 48 * cnt n := by unfold cnt; rw [if_neg (by omega)]; split <;> omega
theorem pay_len (r : List UInt8) : (pay r).length = 48 := by unfold pay; rw [List.length_append, List.length_take, List.length_replicate]; omega
theorem hd_len (n k : Nat) (r : List UInt8) : (hd n k r).length = 56 := by unfold hd; simp [lb_len, pay_len]
theorem chk_len {b : List UInt8} (h : b.length = 56) : (chk b).length = 64 := by unfold chk; rw [List.length_append, List.length_take, h, Sha.sum_len]; rfl
theorem sec_len (n : Int) (t : List UInt8) (k : Nat) : (sec n t k).length = 64 := chk_len (hd_len _ _ _)
theorem secs_len (n : Int) (t : List UInt8) : (secs n t).length = (cnt t.length).toNat := by simp [secs]
end Jn
end

section
/-! steps of loops: numbers as bytes -/
namespace Jn
open Go Go.Fw
theorem cnt_1 {n : Int} (h : n < 0 ∨ 8000 < n) : cnt n = 0 := by unfold cnt; rw [if_pos h]
theorem cnt_2 {n : Int} (h : 0 ≤ n ∧ n ≤ 8000) : cnt n = max 1 ((n + 48 - 1) / 48) := by unfold cnt; rw [if_neg (by omega)]; split <;> omega
theorem cnt_3 : cnt 0 = 1 := rfl
theorem cnt_4 {n : Int} (h : 0 < n ∧ n ≤ 8000) : cnt n = (n + 47) / 48 := by unfold cnt; rw [if_neg (by omega), if_neg (by omega)]
theorem ofb_mod (n : Nat) : ofb ((n : Int) % 256) = UInt8.ofNat n := by
  rw [show ((n : Int) % 256) = ((n % 256 : Nat) : Int) by omega, Wi.ofb_nat]
  apply UInt8.toNat_inj.1
  simp
def dv (n k : Nat) : Nat := n / 256 ^ k
theorem dv_0 (n : Nat) : dv n 0 = n := by unfold dv; rw [Nat.pow_zero, Nat.div_one]
theorem lb_step (n k : Nat) : (lb n k).map vb ++ [vb (ofb ((dv n k : Int) % 256))] = (lb n (k + 1)).map vb := by
  rw [ofb_mod, lb_succ, List.map_append]; rfl
theorem dv_step (n k : Nat) : (dv n k : Int) / 256 = (dv n (k + 1) : Int) := by
  unfold dv
  rw [Nat.pow_succ, ← Nat.div_div_eq_div_mul]; omega
theorem dv_le (n k : Nat) : dv n k ≤ n := Nat.div_le_self _ _
/-- Some bytes of an array are written. -/
def pw (xs : List UInt8) (off n k : Nat) : List UInt8 := xs.take off ++ lb n k ++ xs.drop (off + k)
theorem pw_len {xs : List UInt8} {off n k : Nat} (h : off + k ≤ xs.length) : (pw xs off n k).length = xs.length := by
  unfold pw; rw [List.length_append, List.length_append, List.length_take, List.length_drop, lb_len]; omega
theorem pw_0 {xs : List UInt8} {off n : Nat} : pw xs off n 0 = xs := by
  unfold pw lb; simp
theorem pw_step {xs : List UInt8} {off n k : Nat} (h : off + k < xs.length) : (pw xs off n k).set (off + k) (ofb (dv n k : Int)) = pw xs off n (k + 1) := by
  rw [Wi.ofb_nat]
  unfold pw
  have hl : (xs.take off ++ lb n k).length = off + k := by rw [List.length_append, List.length_take, lb_len]; omega
  rw [List.set_append_right _ _ (by omega), hl, Nat.sub_self, lb_succ, ← List.append_assoc, List.append_assoc (xs.take off ++ lb n k)]
  congr 1
  rw [List.drop_eq_getElem_cons h, List.set_cons_zero, ← Nat.add_assoc]; rfl
/-! number -/
theorem nb_drop {s : List UInt8} {k : Nat} (h : k < s.length) : nb (s.drop k) = 256 * nb (s.drop (k + 1)) + (s.getD k 0).toNat := by
  rw [List.drop_eq_getElem_cons h, nb_cons, List.getD_eq_getElem?_getD, List.getElem?_eq_getElem h]; rfl
theorem nb_end (s : List UInt8) : nb (s.drop s.length) = 0 := by rw [List.drop_length]; rfl
theorem nb_bd {s : List UInt8} (h : s.length ≤ 4) (k : Nat) : nb (s.drop k) < 4294967296 := by
  have := nb_lt (s.drop k)
  have h2 : 256 ^ (s.drop k).length ≤ 256 ^ 4 := Nat.pow_le_pow_right (by decide) (by rw [List.length_drop]; omega)
  omega
theorem ior_byte (p : Nat) (c : UInt8) (hp : p < 4294967296) : ior ((p : Int) * 2 ^ (min (Int.toNat 8) 64)) (c.toNat : Int) = ((256 * p + c.toNat : Nat) : Int) := by
  have hc := c.toNat_lt
  have e1 : ((p : Int) * 2 ^ (min (Int.toNat 8) 64)) = ((256 * p : Nat) : Int) := by
    rw [show (2 : Int) ^ (min (Int.toNat 8) 64) = 256 from rfl]; omega
  have e2 : 256 * p ||| c.toNat = 256 * p + c.toNat := (Nat.two_pow_add_eq_or_of_lt (i := 8) hc p).symm
  rw [e1]
  unfold ior
  rw [BitVec.ofInt_natCast, BitVec.ofInt_natCast, BitVec.toNat_or, BitVec.toNat_ofNat, BitVec.toNat_ofNat, Nat.mod_eq_of_lt (by omega), Nat.mod_eq_of_lt (by omega), e2]
  unfold IntKind.wrap
  have e3 : (2 : Int) ^ IntKind.i64.bits = 18446744073709551616 := rfl
  have e4 : (2 : Int) ^ (IntKind.i64.bits - 1) = 9223372036854775808 := rfl
  have e5 : IntKind.i64.signed = true := rfl
  simp only [e3, e4, e5, Bool.true_and, decide_eq_true_eq]
  split <;> omega
theorem nb_at {s : List UInt8} {k : Nat} (h : k < s.length) : nb (s.drop (s.length - (k + 1))) = 256 * nb (s.drop (s.length - k)) + (s.getD ((s.length : Int) - 1 - k).toNat 0).toNat := by
  rw [nb_drop (k := s.length - (k + 1)) (by omega), show s.length - (k + 1) + 1 = s.length - k by omega, show ((s.length : Int) - 1 - k).toNat = s.length - (k + 1) by omega]
/-! blank -/
/-- What slices.Backward hands out in a round. -/
def bwV (s : List UInt8) (k : Nat) : List Value := [vi ((s.length : Int) - 1 - k), vb (s.getD ((s.length : Int) - 1 - k).toNat 0)]
end Jn
end

section
/-! what Unpack tells -/
namespace Jn
open Go Go.Fw
def pV (p : Part) : Value := .agg [vi p.n, vi p.p, vi p.l, vs p.t, .bool p.ok].toArray
theorem unp_bad {s : List UInt8} (h : ¬ good s) : unp s = p0 := by unfold unp; rw [if_neg h]
theorem unp_len {s : List UInt8} (h : ¬ s.length = 64) : unp s = p0 := unp_bad fun hg => h hg.1
theorem unp_good {s : List UInt8} (h : good s) : unp s = ⟨num s, par s, lft s, List.drop 8 (s.take (8 + inn s)), true⟩ := by unfold unp; rw [if_pos h]
theorem chk_iff {s : List UInt8} (h : s.length = 64) : chk (s.take 56) = s ↔ (Sha.sum (s.take 56)).take 8 = s.drop 56 := by
  unfold chk
  conv => lhs; rhs; rw [← List.take_append_drop 56 s]
  exact ⟨fun e => List.append_cancel_left e, fun e => by rw [e]⟩
theorem rng (s : List UInt8) : num s < 4294967296 ∧ par s < 65536 ∧ lft s < 65536 := by
  have h1 := nb_lt (s.take 4)
  have h2 := nb_lt (List.drop 4 (s.take 6))
  have h3 := nb_lt (List.drop 6 (s.take 8))
  have l1 : 256 ^ (s.take 4).length ≤ 256 ^ 4 := Nat.pow_le_pow_right (by decide) (by rw [List.length_take]; omega)
  have l2 : 256 ^ (List.drop 4 (s.take 6)).length ≤ 256 ^ 2 := Nat.pow_le_pow_right (by decide) (by rw [List.length_drop, List.length_take]; omega)
  have l3 : 256 ^ (List.drop 6 (s.take 8)).length ≤ 256 ^ 2 := Nat.pow_le_pow_right (by decide) (by rw [List.length_drop, List.length_take]; omega)
  unfold num par lft
  omega
theorem inn_le (s : List UInt8) : inn s ≤ 48 := by unfold inn; omega
theorem sA {s : List UInt8} (h : s.length = 64) : (List.drop 0 (List.take (0 + Int.toNat 8) (Sha.sum (List.drop 0 (List.take (0 + Int.toNat 56) s)))) = List.drop (0 + Int.toNat 56 * 1) (List.take (0 + Int.toNat 56 * 1 + (64 - Int.toNat 56)) s)) ↔ chk (s.take 56) = s := by
  rw [chk_iff h]
  have e1 : List.drop 0 (List.take (0 + Int.toNat 8) (Sha.sum (List.drop 0 (List.take (0 + Int.toNat 56) s)))) = (Sha.sum (s.take 56)).take 8 := rfl
  have e2 : List.drop (0 + Int.toNat 56 * 1) (List.take (0 + Int.toNat 56 * 1 + (64 - Int.toNat 56)) s) = s.drop 56 := by
    rw [show 0 + Int.toNat 56 * 1 + (64 - Int.toNat 56) = 64 from rfl, List.take_of_length_le (by omega)]; rfl
  rw [e1, e2]
theorem sB (s : List UInt8) : (List.drop (0 + (8 + (inn s : Int)).toNat * 1) (List.take (0 + (8 + (inn s : Int)).toNat * 1 + (Int.toNat 56 - (8 + (inn s : Int)).toNat)) s) = List.replicate (48 - inn s) 0) ↔ List.drop (8 + inn s) (s.take 56) = List.replicate (48 - inn s) 0 := by
  have := inn_le s
  rw [show 0 + (8 + (inn s : Int)).toNat * 1 = 8 + inn s by omega, show 8 + inn s + (Int.toNat 56 - (8 + (inn s : Int)).toNat) = 56 by rw [show Int.toNat 56 = 56 from rfl]; omega]
theorem good_of {s : List UInt8} (h64 : s.length = 64) (h : ((((List.drop 0 (List.take (0 + Int.toNat 8) (Sha.sum (List.drop 0 (List.take (0 + Int.toNat 56) s)))) = List.drop (0 + Int.toNat 56 * 1) (List.take (0 + Int.toNat 56 * 1 + (64 - Int.toNat 56)) s) ∧ ¬ (num s : Int) = 0) ∧ ¬ 4096 < (num s : Int)) ∧ ¬ 8000 < 48 * (par s : Int) + (lft s : Int)) ∧ (¬ (lft s : Int) = 0 ∨ ¬ 0 < (par s : Int))) ∧ List.drop (0 + (8 + (inn s : Int)).toNat * 1) (List.take (0 + (8 + (inn s : Int)).toNat * 1 + (Int.toNat 56 - (8 + (inn s : Int)).toNat)) s) = List.replicate (48 - inn s) 0) : good s := by
  obtain ⟨⟨⟨⟨⟨h1, h2⟩, h3⟩, h4⟩, h5⟩, h6⟩ := h
  exact ⟨h64, (sA h64).1 h1, by omega, by omega, by omega, by omega, (sB s).1 h6⟩
theorem bad_of {s : List UInt8} (h64 : s.length = 64) (h : ((((¬ List.drop 0 (List.take (0 + Int.toNat 8) (Sha.sum (List.drop 0 (List.take (0 + Int.toNat 56) s)))) = List.drop (0 + Int.toNat 56 * 1) (List.take (0 + Int.toNat 56 * 1 + (64 - Int.toNat 56)) s) ∨ (num s : Int) = 0) ∨ 4096 < (num s : Int)) ∨ 8000 < 48 * (par s : Int) + (lft s : Int)) ∨ (lft s : Int) = 0 ∧ 0 < (par s : Int)) ∨ ¬ List.drop (0 + (8 + (inn s : Int)).toNat * 1) (List.take (0 + (8 + (inn s : Int)).toNat * 1 + (Int.toNat 56 - (8 + (inn s : Int)).toNat)) s) = List.replicate (48 - inn s) 0) : ¬ good s := by
  rintro ⟨_, g1, g2, g3, g4, g5, g6⟩
  rcases h with ((((h | h) | h) | h) | h) | h
  · exact h ((sA h64).2 g1)
  · omega
  · omega
  · omega
  · omega
  · exact h ((sB s).2 g6)
end Jn
end

section
/-! what the reference's Unpack tells -/
namespace Jn
open Go Go.Fw
theorem zero_at {s : List UInt8} (h64 : s.length = 64) (h : ∀ j, 8 + inn s ≤ j → j < 56 → s.getD j 0 = 0) : List.drop (8 + inn s) (s.take 56) = List.replicate (48 - inn s) 0 := by
  have := inn_le s
  refine List.eq_replicate_iff.2 ⟨by rw [List.length_drop, List.length_take]; omega, fun x hx => ?_⟩
  obtain ⟨j, hj, rfl⟩ := List.getElem_of_mem hx
  rw [List.length_drop, List.length_take] at hj
  have := h (8 + inn s + j) (by omega) (by omega)
  rw [List.getD_eq_getElem?_getD, List.getElem?_eq_getElem (by omega)] at this
  rw [List.getElem_drop, List.getElem_take]
  exact this
theorem zero_not {s : List UInt8} (h64 : s.length = 64) {k : Nat} (h1 : 8 + inn s ≤ k) (h2 : k < 56) (h : s.getD k 0 ≠ 0) : ¬ good s := by
  rintro ⟨_, _, _, _, _, _, g6⟩
  apply h
  have hx : (List.drop (8 + inn s) (s.take 56))[k - (8 + inn s)]? = (List.replicate (48 - inn s) (0 : UInt8))[k - (8 + inn s)]? := by rw [g6]
  rw [List.getElem?_drop, List.getElem?_take, if_pos (by omega), List.getElem?_replicate, if_pos (by omega), show 8 + inn s + (k - (8 + inn s)) = k by omega] at hx
  rw [List.getD_eq_getElem?_getD, hx]; rfl
theorem z_step2 {s : List UInt8} {b k : Nat} (h : ∀ j, b ≤ j → j < k → s.getD j 0 = 0) (h1 : s.getD k 0 = 0) : ∀ j, b ≤ j → j < k + 1 → s.getD j 0 = 0 := fun j h0 hj => by
  rcases Nat.lt_or_ge j k with h2 | h2
  · exact h j h0 h2
  · rw [show j = k by omega]; exact h1
theorem rgood_of {s : List UInt8} (h64 : s.length = 64) (h : (((chk (s.take 56) = s ∧ ¬ (num s : Int) < 1) ∧ ¬ 4096 < (num s : Int)) ∧ ¬ 8000 < 48 * (par s : Int) + (lft s : Int)) ∧ (¬ (lft s : Int) < 1 ∨ ¬ 0 < (par s : Int))) (hz : ∀ j, 8 + inn s ≤ j → j < 56 → s.getD j 0 = 0) : good s := by
  obtain ⟨⟨⟨⟨h1, h2⟩, h3⟩, h4⟩, h5⟩ := h
  exact ⟨h64, h1, by omega, by omega, by omega, by omega, zero_at h64 hz⟩
theorem rbad_of {s : List UInt8} (h : (((¬ chk (s.take 56) = s ∨ (num s : Int) < 1) ∨ 4096 < (num s : Int)) ∨ 8000 < 48 * (par s : Int) + (lft s : Int)) ∨ (lft s : Int) < 1 ∧ 0 < (par s : Int)) : ¬ good s := by
  rintro ⟨_, g1, g2, g3, g4, g5, g6⟩
  rcases h with (((h | h) | h) | h) | h
  · exact h g1
  all_goals omega
end Jn
end

section
/-! a sector is made -/
namespace Jn
open Go Go.Fw
theorem pw_cat {A B C : List UInt8} {n k : Nat} (hb : B.length = k) : pw (A ++ (B ++ C)) A.length n k = A ++ (lb n k ++ C) := by
  unfold pw
  subst hb
  rw [List.take_left, List.append_assoc, ← List.append_assoc A B C, show A.length + B.length = (A ++ B).length by simp, List.drop_left]
def z (n : Nat) : List UInt8 := List.replicate n 0
theorem mk_1 (n : Nat) : pw (z 64) 0 n 4 = lb n 4 ++ z 60 := by
  have := pw_cat (A := []) (B := z 4) (C := z 60) (n := n) (k := 4) rfl
  exact this
theorem mk_2 (n k : Nat) : pw (lb n 4 ++ z 60) 4 k 2 = lb n 4 ++ (lb k 2 ++ z 58) := by
  have := pw_cat (A := lb n 4) (B := z 2) (C := z 58) (n := k) (k := 2) rfl
  rw [lb_len] at this
  exact this
theorem mk_3 (n k m : Nat) : pw (lb n 4 ++ (lb k 2 ++ z 58)) 6 m 2 = lb n 4 ++ (lb k 2 ++ (lb m 2 ++ z 56)) := by
  have := pw_cat (A := lb n 4 ++ lb k 2) (B := z 2) (C := z 56) (n := m) (k := 2) rfl
  rw [List.length_append, lb_len, lb_len, List.append_assoc] at this
  rw [List.append_assoc] at this
  exact this
theorem mk_4 (n k : Nat) (r : List UInt8) : (lb n 4 ++ (lb k 2 ++ (lb r.length 2 ++ z 56))).take 8 ++ r.take (min r.length 48) ++ (lb n 4 ++ (lb k 2 ++ (lb r.length 2 ++ z 56))).drop (8 + min r.length 48) = hd n k r ++ z 8 := by
  have e : lb n 4 ++ (lb k 2 ++ (lb r.length 2 ++ z 56)) = (lb n 4 ++ lb k 2 ++ lb r.length 2) ++ z 56 := by simp only [List.append_assoc]
  have hl : (lb n 4 ++ lb k 2 ++ lb r.length 2).length = 8 := by simp [lb_len]
  have eh : hd n k r = (lb n 4 ++ lb k 2 ++ lb r.length 2) ++ pay r := rfl
  rw [eh]
  rw [e]
  generalize lb n 4 ++ lb k 2 ++ lb r.length 2 = A at hl
  have e2 : (A ++ z 56).drop (8 + min r.length 48) = (z 56).drop (min r.length 48) := by
    rw [← List.drop_drop, ← hl, List.drop_left]
  have e3 : (z 56).drop (min r.length 48) = z (48 - r.length) ++ z 8 := by
    unfold z
    rw [List.drop_replicate, List.replicate_append_replicate]
    congr 1; omega
  have e4 : (A ++ z 56).take 8 = A := by rw [← hl, List.take_left]
  have e5 : r.take (min r.length 48) = r.take 48 := by
    rcases Nat.le_total r.length 48 with h | h
    · rw [Nat.min_eq_left h, List.take_of_length_le (Nat.le_refl _), List.take_of_length_le h]
    · rw [Nat.min_eq_right h]
  rw [e2, e3, e4, e5]
  unfold pay z
  simp only [List.append_assoc]
theorem mk_5 (n k : Nat) (r : List UInt8) : (hd n k r ++ z 8).take 56 = hd n k r := by
  rw [List.take_append_of_le_length (by rw [hd_len]; omega), List.take_of_length_le (by rw [hd_len]; omega)]
theorem mk_6 (n k : Nat) (r : List UInt8) : (hd n k r ++ z 8).take 56 ++ (Sha.sum (hd n k r)).take 8 ++ (hd n k r ++ z 8).drop 64 = chk (hd n k r) := by
  rw [mk_5, List.drop_of_length_le (by rw [List.length_append, hd_len]; exact Nat.le_refl _), List.append_nil]; rfl
/-- What parts hands out in a round. -/
def ptV (n : Nat) (t : List UInt8) (k : Nat) : List Value := [.agg ((sec (n : Int) t k).map vb).toArray]
end Jn
namespace Jn
open Go Go.Fw
def secN (n : Int) (t : List UInt8) (k : Nat) : List (List UInt8) := (List.range k).map (sec n t)
theorem secN_len (n : Int) (t : List UInt8) (k : Nat) : (secN n t k).length = k := by simp [secN]
theorem secN_step (n : Int) (t : List UInt8) (k : Nat) : (secN n t k).map vs ++ [vs (sec n t k)] = (secN n t (k + 1)).map vs := by
  unfold secN; rw [List.range_succ, List.map_append, List.map_append]; rfl
theorem secN_end (n : Int) (t : List UInt8) : secN n t (cnt t.length).toNat = secs n t := rfl
theorem pack_1 {n : Int} {t : List UInt8} (h : n < 1 ∨ 4096 < n) : pack n t = ([], 1) := by unfold pack; rw [if_pos h]
theorem pack_2 {n : Int} {t : List UInt8} (h : 1 ≤ n ∧ n ≤ 4096) (h2 : 8000 < t.length) : pack n t = ([], 4) := by unfold pack; rw [if_neg (by omega), if_pos h2]
theorem pack_3 {n : Int} {t : List UInt8} (h : 1 ≤ n ∧ n ≤ 4096) (h2 : t.length ≤ 8000) : pack n t = (secs n t, 0) := by unfold pack; rw [if_neg (by omega), if_neg (by omega)]
/-- What Pack returns. -/
def PkR (T : TypeId) (d : List (List UInt8) × Int) : Value → List PH → List Res → Prop := fun r zs hs => ∃ v, r = .tuple [v, vi d.2].toArray ∧ zs = [] ∧ hs = [.row v T 1 d.1.length (d.1.map vs)]
theorem pk_of {T : TypeId} {q : List (List UInt8)} {e : Int} {d : List (List UInt8) × Int} {r : Value} {zs : List PH} {hs : List Res} (h : ∃ v, r = .tuple [v, vi e].toArray ∧ zs = [] ∧ hs = [.row v T 1 q.length (q.map vs)]) (h1 : d = (q, e)) : PkR T d r zs hs := by subst h1; exact h
end Jn
end

section
/-! the reference's sector, byte by byte -/
namespace Jn
open Go Go.Fw
def hdN (n k : Nat) (r : List UInt8) (i : Nat) : List UInt8 := lb n 4 ++ lb k 2 ++ lb r.length 2 ++ (List.range i).map fun j => r.getD j 0
theorem hdN_0 (n k : Nat) (r : List UInt8) : (lb n 4).map vb ++ (lb k 2).map vb ++ (lb r.length 2).map vb = (hdN n k r 0).map vb := by
  unfold hdN; simp
theorem hdN_step (n k : Nat) (r : List UInt8) (i : Nat) : (hdN n k r i).map vb ++ [vb (r.getD i 0)] = (hdN n k r (i + 1)).map vb := by
  unfold hdN; rw [List.range_succ]; simp
theorem hdN_end (n k : Nat) (r : List UInt8) : hdN n k r 48 = hd n k r := by
  unfold hdN hd pay
  congr 1
  apply List.ext_getElem?
  intro j
  rw [List.getElem?_map, List.getElem?_append, List.length_take, List.getElem?_take, List.getElem?_replicate]
  by_cases h : j < 48
  · rw [List.getElem?_range h]
    by_cases h2 : j < r.length
    · rw [if_pos (by omega), if_pos h, Option.map_some, List.getD_eq_getElem?_getD, List.getElem?_eq_getElem h2]; rfl
    · rw [if_neg (by omega), if_pos (by omega), Option.map_some, List.getD_eq_getElem?_getD, List.getElem?_eq_none (by omega)]; rfl
  · rw [List.getElem?_eq_none (by simp; omega), if_neg (by omega), if_neg (by omega)]; rfl
theorem sec_eq (n k : Nat) (t : List UInt8) : chk (hd n k (t.drop (48 * k))) = sec (n : Int) t k := by unfold sec; rw [Int.toNat_natCast]
end Jn
end

section
/-! parts as elements of a slice; records -/
namespace Jn
open Go Go.Fw
def PtOk (x : Part) : Prop := (0 ≤ x.n ∧ x.n ≤ 4096) ∧ (0 ≤ x.p ∧ x.p ≤ 65535) ∧ (0 ≤ x.l ∧ x.l ≤ 8000) ∧ x.t.length ≤ 48
def ptC (x : Part) : List Value := [vi x.n, vi x.p, vi x.l, vs x.t, .bool x.ok]
theorem ptC_len (x : Part) : (ptC x).length = 5 := rfl
theorem ptC_one (x : Part) : ∀ u ∈ ptC x, u.oneCell' = true := fun u hu => by
  simp only [ptC, List.mem_cons, List.not_mem_nil, or_false] at hu
  rcases hu with rfl | rfl | rfl | rfl | rfl <;> rfl
abbrev encPt := encK ptC 5 PtOk ptC_len ptC_one
theorem unp_ok (s : List UInt8) : PtOk (unp s) := by
  obtain ⟨h1, h2, h3⟩ := rng s
  by_cases h : good s
  · rw [unp_good h]
    obtain ⟨g0, _, g1, g2, g3, g4, _⟩ := h
    refine ⟨⟨by dsimp only; omega, by dsimp only; omega⟩, ⟨by dsimp only; omega, by dsimp only; omega⟩, ⟨by dsimp only; omega, by dsimp only; omega⟩, ?_⟩
    dsimp only
    have := inn_le s
    rw [List.length_drop, List.length_take]; omega
  · rw [unp_bad h]
    exact ⟨by decide, by decide, by decide, by decide⟩
def recT (l : List Part) : List UInt8 × Int × Bool := match recd l with
  | none => ([], 0, false)
  | some (t, n) => (t, n, true)
def f0 (l : List Part) : Part := l.getD 0 p0
theorem rec_none {l : List Part} (h : recd l = none) : recT l = ([], 0, false) := by unfold recT; rw [h]
theorem recd_if {l : List Part} (h0 : l ≠ []) : recd l = if (f0 l).ok = true ∧ (f0 l).p = 0 ∧ 1 ≤ cnt (f0 l).l ∧ cnt (f0 l).l ≤ l.length ∧ mts (f0 l) 0 (l.take (cnt (f0 l).l).toNat) = true then some (txs (l.take (cnt (f0 l).l).toNat), (cnt (f0 l).l).toNat) else none := by
  cases l with
  | nil => exact absurd rfl h0
  | cons f l => exact recd_cons f l
theorem rec_1 {l : List Part} (h0 : l ≠ []) (h : ((f0 l).ok = false ∨ ¬ (f0 l).p = 0) ∨ (l.length : Int) < cnt (f0 l).l) : recT l = ([], 0, false) := by
  apply rec_none
  rw [recd_if h0, if_neg]
  rintro ⟨h1, h2, _, h4, _⟩
  rcases h with (h | h) | h
  · rw [h1] at h; cases h
  · exact h h2
  · omega
theorem rec_2 {l : List Part} (h0 : l ≠ []) (h : mts (f0 l) 0 (l.take (cnt (f0 l).l).toNat) = false) : recT l = ([], 0, false) := by
  apply rec_none
  rw [recd_if h0, if_neg]
  rintro ⟨_, _, _, _, h4⟩
  rw [h4] at h; cases h
theorem rec_3 {l : List Part} (h0 : l ≠ []) (h : ((f0 l).ok = true ∧ (f0 l).p = 0) ∧ ¬ (l.length : Int) < cnt (f0 l).l) (h1 : 1 ≤ cnt (f0 l).l) (h2 : mts (f0 l) 0 (l.take (cnt (f0 l).l).toNat) = true) : recT l = (txs (l.take (cnt (f0 l).l).toNat), (((cnt (f0 l).l).toNat : Nat) : Int), true) := by
  unfold recT
  rw [recd_if h0, if_pos ⟨h.1.1, h.1.2, h1, by omega, h2⟩]
theorem mts_snoc (f : Part) : ∀ (l : List Part) (k : Nat) (q : Part), mts f k (l ++ [q]) = (mts f k l && mt f (k + l.length) q)
  | [], k, q => by show (mt f k q && true) = (true && _); simp
  | x :: l, k, q => by
    show (mt f k x && mts f (k + 1) (l ++ [q])) = ((mt f k x && mts f (k + 1) l) && _)
    rw [mts_snoc f l, List.length_cons, Bool.and_assoc, show k + 1 + l.length = k + (l.length + 1) by omega]
theorem mts_app (f : Part) : ∀ (l m : List Part) (k : Nat), mts f k (l ++ m) = (mts f k l && mts f (k + l.length) m)
  | [], m, k => by show mts f k m = (true && _); rw [Bool.true_and]; rfl
  | x :: l, m, k => by
    show (mt f k x && mts f (k + 1) (l ++ m)) = ((mt f k x && mts f (k + 1) l) && _)
    rw [mts_app f l, List.length_cons, Bool.and_assoc, show k + 1 + l.length = k + (l.length + 1) by omega]
theorem take_snoc {α : Type} {d : α} {l : List α} {k : Nat} (h : k < l.length) : l.take (k + 1) = l.take k ++ [l.getD k d] := by
  rw [List.take_add_one, List.getElem?_eq_getElem h, List.getD_eq_getElem?_getD, List.getElem?_eq_getElem h]; rfl
theorem mts_step {f : Part} {l : List Part} {k : Nat} (h : k < l.length) (h1 : mts f 0 (l.take k) = true) (h2 : ((((l.getD k p0).ok = true ∧ (l.getD k p0).n = f.n) ∧ (l.getD k p0).p = k) ∧ (l.getD k p0).l = f.l - 48 * k)) : mts f 0 (l.take (k + 1)) = true := by
  obtain ⟨⟨⟨a1, a2⟩, a3⟩, a4⟩ := h2
  rw [take_snoc (d := p0) h, mts_snoc, h1, List.length_take, Nat.min_eq_left (by omega), Nat.zero_add]
  unfold mt
  rw [a1, a2, a3, a4]; simp
theorem mts_stop {f : Part} {l : List Part} {k : Nat} (h : k < l.length) (h2 : (((l.getD k p0).ok = false ∨ ¬ (l.getD k p0).n = f.n) ∨ ¬ (l.getD k p0).p = k) ∨ ¬ (l.getD k p0).l = f.l - 48 * k) : mts f 0 l = false := by
  have e : l = l.take (k + 1) ++ l.drop (k + 1) := (List.take_append_drop _ _).symm
  rw [e, mts_app, take_snoc (d := p0) h, mts_snoc, List.length_take, Nat.min_eq_left (by omega), Nat.zero_add]
  have : mt f k (l.getD k p0) = false := by
    unfold mt
    rcases h2 with ((h | h) | h) | h
    · rw [h]; rfl
    · rw [decide_eq_false h]; simp
    · rw [decide_eq_false h]; simp
    · rw [decide_eq_false h]; simp
  rw [this]; simp
theorem txs_step {l : List Part} {k : Nat} (h : k < l.length) : txs (l.take (k + 1)) = txs (l.take k) ++ (l.getD k p0).t := by
  rw [take_snoc (d := p0) h]; unfold txs; simp
theorem txs_len {l : List Part} (h : ∀ x ∈ l, PtOk x) : (txs l).length ≤ 48 * l.length := by
  induction l with
  | nil => simp [txs]
  | cons a t ih =>
    have := ih fun x hx => h x (List.mem_cons_of_mem _ hx)
    have h2 := (h a List.mem_cons_self).2.2.2
    unfold txs at this ⊢
    rw [List.flatMap_cons, List.length_append, List.length_cons]; omega
end Jn
namespace Go.Fw
section
variable {P : Program} {n : Nat} {w0 : World} {zs : List PH} {hs : List Res} {L : List (Nat × Value)} {d : Option Tmp} {ty t : TypeId} {pos : String} {af : Array Edge} {g : Option (Nat × Bool)} {x : Operand} {v : Value}
theorem q_ld_Pt [Dfs] {dd : TypeDesc} {by_ : Nat} {zv : Value} (ht : Tf P t dd 5 by_ zv) {z : PH} {xs : List Jn.Part} {k : Nat} (hS : Sl Jn.encPt z v xs) (hz : ZIn w0 zs z) (h2 : opv L x = some (elemPtr v (k * 5))) (hd : aggD dd = true) (hk : k < xs.length) :
    Qt P n w0 zs hs L ⟨d, .load t x, ty, pos, af, g⟩ (.agg [vi (xs.getD k Jn.p0).n, vi (xs.getD k Jn.p0).p, vi (xs.getD k Jn.p0).l, vs (xs.getD k Jn.p0).t, .bool (xs.getD k Jn.p0).ok].toArray) :=
  q_ld_K Jn.p0 ht hS hz h2 hd (by decide) hk
end
end Go.Fw
namespace Jn
theorem mem_cut {xs : List Part} {m k : Nat} (h : k < (List.drop 0 (List.take m xs)).length) : (List.drop 0 (List.take m xs)).getD k p0 ∈ xs := by
  rw [List.getD_eq_getElem?_getD, List.getElem?_eq_getElem h]
  exact List.mem_of_mem_take (List.mem_of_mem_drop (List.getElem_mem h))
theorem mem_cut2 {xs : List Part} {m k : Nat} : ∀ x ∈ (List.drop 0 (List.take m xs)).take k, x ∈ xs := fun _ h => List.mem_of_mem_take (List.mem_of_mem_drop (List.mem_of_mem_take h))
end Jn
end

section
/-! the journals as resources -/
namespace Jn
open Go Go.Fw
structure Wf (J : JS) : Prop where
  n1 : 1 ≤ J.next
  n2 : J.next ≤ 4097
  e1 : 0 ≤ J.en
  e2 : J.en ≤ 4096
  nl : (J.nums.length : Int) ≤ J.en
  tl : J.tx.length = J.nums.length
  bl : (J.bad.length : Int) ≤ 4096
  nr : ∀ x ∈ J.nums, 1 ≤ x ∧ x ≤ 4096
  br : ∀ x ∈ J.bad, 0 ≤ x ∧ x ≤ 4096
  tr : ∀ x ∈ J.tx, x.length ≤ 8064
theorem Wf.nr' {J : JS} (h : Wf J) : ∀ x ∈ J.nums, -9223372036854775808 ≤ x ∧ x ≤ 9223372036854775807 := fun x hx => by have := h.nr x hx; omega
theorem Wf.br' {J : JS} (h : Wf J) : ∀ x ∈ J.bad, -9223372036854775808 ≤ x ∧ x ≤ 9223372036854775807 := fun x hx => by have := h.br x hx; omega
theorem Wf.tr' {J : JS} (h : Wf J) : ∀ x ∈ J.tx, x.length ≤ 140737488355328 := fun x hx => by have := h.tr x hx; omega
/-- The program's journal. -/
def JOk (TJ Ti Ts : TypeId) (b pd : Nat) (J : JS) (r1 r2 r3 r4 : Res) : Prop :=
  ∃ vn vbd vt, Wf J ∧ r1 = .blk b TJ [.pointer (some ⟨pd, 0, none⟩), vn, vbd, vt, vi J.next, vi J.en, .bool J.cl] ∧ r2 = .row vn Ti 1 J.nums.length (J.nums.map vi) ∧ r3 = .row vbd Ti 1 J.bad.length (J.bad.map vi) ∧ r4 = .row vt Ts 1 J.tx.length (J.tx.map vs)
/-- The reference's journal. -/
def ROk (TJ Ti Ts : TypeId) (b pd : Nat) (J : JS) (r1 r2 r3 r4 : Res) : Prop :=
  ∃ vn vbd vt, Wf J ∧ r1 = .blk b TJ [.pointer (some ⟨pd, 0, none⟩), vn, vt, vbd, vi J.next, vi J.en, .bool J.cl] ∧ r2 = .row vn Ti 1 J.nums.length (J.nums.map vi) ∧ r3 = .row vbd Ti 1 J.bad.length (J.bad.map vi) ∧ r4 = .row vt Ts 1 J.tx.length (J.tx.map vs)
def JR (K : JS → Res → Res → Res → Res → Prop) (J : JS) (v : Value) : Value → List PH → List Res → Prop := fun r zs hs => r = v ∧ zs = [] ∧ ∃ q1 q2 q3 q4, hs = [q1, q2, q3, q4] ∧ K J q1 q2 q3 q4
theorem jr_of {K : JS → Res → Res → Res → Res → Prop} {J J' : JS} {v v' r : Value} {zs : List PH} {hs : List Res} (h : JR K J v r zs hs) (e1 : J = J') (e2 : v = v') : JR K J' v' r zs hs := e1 ▸ e2 ▸ h
/-- A row is handed out. -/
def JRw (K : JS → Res → Res → Res → Res → Prop) (T : TypeId) (J : JS) (n : Nat) (cs : List Value) : Value → List PH → List Res → Prop := fun r zs hs => zs = [] ∧ ∃ q1 q2 q3 q4, hs = [.row r T 1 n cs, q1, q2, q3, q4] ∧ K J q1 q2 q3 q4
theorem jrw_of {K : JS → Res → Res → Res → Res → Prop} {T : TypeId} {J : JS} {n n' : Nat} {cs cs' : List Value} {r : Value} {zs : List PH} {hs : List Res} (h : JRw K T J n cs r zs hs) (e1 : n = n') (e2 : cs = cs') : JRw K T J n' cs' r zs hs := e1 ▸ e2 ▸ h
/-- A journal with its disk. -/
def JDR (K : JS → Res → Res → Res → Res → Prop) (D : Dk.Dsk → Res → Res → Res → Res → Prop) (J : JS) (S : Dk.Dsk) (v : Value) : Value → List PH → List Res → Prop := fun r zs hs => r = v ∧ zs = [] ∧ ∃ q1 q2 q3 q4 d1 d2 d3 d4, hs = [q1, q2, q3, q4, d1, d2, d3, d4] ∧ K J q1 q2 q3 q4 ∧ D S d1 d2 d3 d4
theorem jdr_of {K : JS → Res → Res → Res → Res → Prop} {D : Dk.Dsk → Res → Res → Res → Res → Prop} {J J' : JS} {S S' : Dk.Dsk} {v v' r : Value} {zs : List PH} {hs : List Res} (h : JDR K D J S v r zs hs) (e1 : J = J') (e2 : S = S') (e3 : v = v') : JDR K D J' S' v' r zs hs := e1 ▸ e2 ▸ e3 ▸ h
end Jn
end

section
/-! Damaged; Append, told by cases -/
namespace Jn
open Go Go.Fw
def MtM (l : List Int) (i : Nat) (m : List (Int × Value)) : Prop := ∀ x, aget m x = if x ∈ l.take i then some (.bool true) else none
theorem MtM.start (l : List Int) : MtM l 0 [] := fun x => by rw [List.take_zero, if_neg (by simp)]; rfl
theorem MtM.step {l : List Int} {i : Nat} {m : List (Int × Value)} (h : MtM l i m) (hi : i < l.length) : MtM l (i + 1) (aset (l.getD i 0) (.bool true) m) := fun x => by
  rw [aget_aset, h x, take_snoc (d := (0 : Int)) hi]
  by_cases hx : x = l.getD i 0
  · rw [if_pos hx, if_pos (by rw [hx]; simp)]
  · rw [if_neg hx]
    by_cases h2 : x ∈ l.take i
    · rw [if_pos h2, if_pos (List.mem_append_left _ h2)]
    · rw [if_neg h2, if_neg (fun e => by
        rcases List.mem_append.1 e with e | e
        · exact h2 e
        · exact hx (by simpa using e))]
theorem MtM.get {l : List Int} {m : List (Int × Value)} (h : MtM l l.length m) (x : Int) : (aget m x).getD (.bool false) = .bool (decide (x ∈ l)) := by
  rw [h x, List.take_length]
  by_cases hx : x ∈ l
  · rw [if_pos hx, decide_eq_true hx]; rfl
  · rw [if_neg hx, decide_eq_false hx]; rfl
theorem dm_in {l : List Int} {k : Nat} (h : (k : Int) + 1 ∈ l) : dmN l (k + 1) = dmN l k := by rw [dmN, if_pos h]
theorem dm_out {l : List Int} {k : Nat} (h : (k : Int) + 1 ∉ l) : dmN l (k + 1) = dmN l k ++ [(k : Int) + 1] := by rw [dmN, if_neg h]
theorem dm_len (l : List Int) : ∀ k, (dmN l k).length ≤ k
  | 0 => Nat.le_refl _
  | k + 1 => by
    have := dm_len l k
    rw [dmN]
    split
    · omega
    · rw [List.length_append]; simpa using this
end Jn
end

section
/-! writes, flush and reads, told by cases -/
namespace Jn
open Go Go.Fw
theorem wrN_succ {S : Dk.Dsk} {a : Int} {l : List (List UInt8)} {k : Nat} (h : (wrN S a l k).2 = 0) : wrN S a l (k + 1) = Dk.write (wrN S a l k).1 (a + k) (l.getD k []) := by rw [wrN, if_neg (by omega)]
theorem wrN_stay {S : Dk.Dsk} {a : Int} {l : List (List UInt8)} {k : Nat} (h : (wrN S a l k).2 ≠ 0) : ∀ m, k ≤ m → wrN S a l m = wrN S a l k
  | 0, hm => by rw [show k = 0 by omega]
  | m + 1, hm => by
    rcases Nat.lt_or_ge m k with h2 | h2
    · rw [show m + 1 = k by omega]
    · have := wrN_stay h m h2
      rw [wrN, if_pos (by rw [this]; exact h), this]
theorem rdN_succ {S : Dk.Dsk} {a : Int} {l : List (List UInt8)} {k : Nat} (h : (rdN S a l k).1 = 0) (h2 : (Dk.read S (a + k)).2 = 0) : rdN S a l (k + 1) = (0, (rdN S a l k).2 && decide (l.getD k [] = (Dk.read S (a + k)).1)) := by rw [rdN, if_neg (by omega), if_neg (by omega)]
theorem rdN_bad {S : Dk.Dsk} {a : Int} {l : List (List UInt8)} {k : Nat} (h : (rdN S a l k).1 = 0) (h2 : (Dk.read S (a + k)).2 ≠ 0) : rdN S a l (k + 1) = ((Dk.read S (a + k)).2, false) := by rw [rdN, if_neg (by omega), if_pos h2]
theorem rdN_stay {S : Dk.Dsk} {a : Int} {l : List (List UInt8)} {k : Nat} (h : (rdN S a l k).1 ≠ 0) : ∀ m, k ≤ m → rdN S a l m = rdN S a l k
  | 0, hm => by rw [show k = 0 by omega]
  | m + 1, hm => by
    rcases Nat.lt_or_ge m k with h2 | h2
    · rw [show m + 1 = k by omega]
    · have := rdN_stay h m h2
      rw [rdN, if_pos (by rw [this]; exact h), this]
theorem wfr_1 {S : Dk.Dsk} {a : Int} {l : List (List UInt8)} {k : Nat} (hk : k < l.length) (h : (wrN S a l k).2 = 0) (h2 : (Dk.write (wrN S a l k).1 (a + k) (l.getD k [])).2 ≠ 0) :
    wfr S a l = ((Dk.write (wrN S a l k).1 (a + k) (l.getD k [])).1, (Dk.write (wrN S a l k).1 (a + k) (l.getD k [])).2, false) := by
  have e := wrN_succ h
  have e2 := wrN_stay (S := S) (a := a) (l := l) (k := k + 1) (by rw [e]; exact h2) l.length hk
  unfold wfr
  rw [e2, e, if_pos h2]
theorem wfr_2 {S : Dk.Dsk} {a : Int} {l : List (List UInt8)} (h : (wrN S a l l.length).2 = 0) (h2 : (Dk.flush (wrN S a l l.length).1).2 ≠ 0) : wfr S a l = ((Dk.flush (wrN S a l l.length).1).1, (Dk.flush (wrN S a l l.length).1).2, false) := by
  unfold wfr; rw [if_neg (by omega), if_pos h2]
theorem wfr_3 {S F : Dk.Dsk} {a : Int} {l : List (List UInt8)} {k : Nat} (hF : F = (Dk.flush (wrN S a l l.length).1).1) (hk : k < l.length) (h : (wrN S a l l.length).2 = 0) (h2 : (Dk.flush (wrN S a l l.length).1).2 = 0) (h3 : (rdN F a l k).1 = 0) (h4 : (Dk.read F (a + k)).2 ≠ 0) :
    wfr S a l = (F, (Dk.read F (a + k)).2, false) := by
  subst hF
  have e := rdN_bad h3 h4
  have e2 := rdN_stay (S := (Dk.flush (wrN S a l l.length).1).1) (a := a) (l := l) (k := k + 1) (by rw [e]; exact h4) l.length hk
  unfold wfr; rw [if_neg (by omega), if_neg (by omega), e2, e]
theorem wfr_4 {S F : Dk.Dsk} {a : Int} {l : List (List UInt8)} (hF : F = (Dk.flush (wrN S a l l.length).1).1) (h : (wrN S a l l.length).2 = 0) (h2 : (Dk.flush (wrN S a l l.length).1).2 = 0) (h3 : (rdN F a l l.length).1 = 0) : wfr S a l = (F, 0, (rdN F a l l.length).2) := by
  subst hF
  unfold wfr; rw [if_neg (by omega), if_neg (by omega)]
  exact congrArg _ (Prod.ext h3 rfl)
end Jn
end

section
/-! Append, told by cases -/
namespace Jn
open Go Go.Fw
def J1 (J : JS) (t : List UInt8) : JS := ⟨J.nums, J.tx, J.bad, J.next + 1, J.en + (secs J.next t).length, J.cl⟩
def J2 (J : JS) (t : List UInt8) : JS := ⟨J.nums, J.tx, J.bad, J.next + 1, J.en + (secs J.next t).length, true⟩
def J3 (J : JS) (t : List UInt8) : JS := ⟨J.nums ++ [J.next], J.tx ++ [t], J.bad, J.next + 1, J.en + (secs J.next t).length, J.cl⟩
theorem app_1 {J : JS} {S : Dk.Dsk} {t : List UInt8} (h : J.cl = true) : app J S t = (J, S, 0, 23) := by unfold app; rw [if_pos h]
theorem app_2 {J : JS} {S : Dk.Dsk} {t : List UInt8} (h : ¬ J.cl = true) (h2 : 8000 < t.length ∨ 4096 < J.next) : app J S t = (J, S, 0, 4) := by unfold app; rw [if_neg h, if_pos h2]
theorem app_3 {J : JS} {S : Dk.Dsk} {t : List UInt8} (h : ¬ J.cl = true) (h2 : t.length ≤ 8000 ∧ J.next ≤ 4096) (h3 : room J S < cnt t.length) : app J S t = (J, S, 0, 22) := by unfold app; rw [if_neg h, if_neg (by omega), if_pos h3]
theorem app_4 {J : JS} {S : Dk.Dsk} {t : List UInt8} (h : ¬ J.cl = true) (h2 : t.length ≤ 8000 ∧ J.next ≤ 4096) (h3 : ¬ room J S < cnt t.length) (h4 : (wfr S J.en (secs J.next t)).2.1 ≠ 0) : app J S t = (J2 J t, (wfr S J.en (secs J.next t)).1, 0, (wfr S J.en (secs J.next t)).2.1) := by unfold app; rw [if_neg h, if_neg (by omega), if_neg h3, if_pos h4]; rfl
theorem app_5 {J : JS} {S : Dk.Dsk} {t : List UInt8} (h : ¬ J.cl = true) (h2 : t.length ≤ 8000 ∧ J.next ≤ 4096) (h3 : ¬ room J S < cnt t.length) (h4 : (wfr S J.en (secs J.next t)).2.1 = 0) (h5 : (wfr S J.en (secs J.next t)).2.2 = false) : app J S t = (J1 J t, (wfr S J.en (secs J.next t)).1, 0, 24) := by unfold app; rw [if_neg h, if_neg (by omega), if_neg h3, if_neg (by omega), if_pos h5]; rfl
theorem app_6 {J : JS} {S : Dk.Dsk} {t : List UInt8} (h : ¬ J.cl = true) (h2 : t.length ≤ 8000 ∧ J.next ≤ 4096) (h3 : ¬ room J S < cnt t.length) (h4 : (wfr S J.en (secs J.next t)).2.1 = 0) (h5 : ¬ (wfr S J.en (secs J.next t)).2.2 = false) : app J S t = (J3 J t, (wfr S J.en (secs J.next t)).1, J.next, 0) := by unfold app; rw [if_neg h, if_neg (by omega), if_neg h3, if_neg (by omega), if_neg h5]; rfl
theorem wf_1 {J : JS} {S : Dk.Dsk} {t : List UInt8} (hJ : Wf J) (hS : (S.s.length : Int) ≤ 4096) (h2 : t.length ≤ 8000 ∧ J.next ≤ 4096) (h3 : ¬ room J S < cnt t.length) : Wf (J1 J t) := by
  have hc := cnt_rng t.length
  unfold room at h3
  exact ⟨by have := hJ.n1; show 1 ≤ J.next + 1; omega, by show J.next + 1 ≤ 4097; omega, by have := hJ.e1; show 0 ≤ J.en + _; omega, by show J.en + ((secs J.next t).length : Int) ≤ 4096; rw [secs_len]; omega, by have := hJ.nl; show (J.nums.length : Int) ≤ J.en + _; omega, hJ.tl, hJ.bl, hJ.nr, hJ.br, hJ.tr⟩
theorem wf_2 {J : JS} {t : List UInt8} (h : Wf (J1 J t)) : Wf (J2 J t) := ⟨h.n1, h.n2, h.e1, h.e2, h.nl, h.tl, h.bl, h.nr, h.br, h.tr⟩
theorem wf_3 {J : JS} {t : List UInt8} (hJ : Wf J) (h : Wf (J1 J t)) (h2 : t.length ≤ 8000 ∧ J.next ≤ 4096): Wf (J3 J t) := by
  have hl := hJ.nl
  have hp := cnt_pos (n := t.length) (by omega)
  refine ⟨h.n1, h.n2, h.e1, h.e2, ?_, ?_, h.bl, ?_, h.br, ?_⟩
  · show ((J.nums ++ [J.next]).length : Int) ≤ J.en + ((secs J.next t).length : Int)
    rw [List.length_append, secs_len]; simp; omega
  · show (J.tx ++ [t]).length = (J.nums ++ [J.next]).length
    rw [List.length_append, List.length_append, hJ.tl]; rfl
  · intro x hx
    rcases List.mem_append.1 hx with hx | hx
    · exact hJ.nr x hx
    · have : x = J.next := by simpa using hx
      have := hJ.n1
      omega
  · intro x hx
    rcases List.mem_append.1 hx with hx | hx
    · exact hJ.tr x hx
    · have : x = t := by simpa using hx
      subst this; omega
theorem secs_el {n : Int} {t : List UInt8} : ∀ x ∈ secs n t, x.length ≤ 140737488355328 := fun x hx => by
  obtain ⟨k, _, rfl⟩ := List.mem_map.1 hx
  rw [sec_len]; decide
end Jn
end

section
/-! the reference's journal as resources; the text of a step -/
namespace Jn
open Go Go.Fw
def txtN (f : UInt8) (k : Nat) : List UInt8 := (List.range k).map fun (j : Nat) => f + ofb (j : Int)
def txt (n : Int) (f : UInt8) : List UInt8 := txtN f (min (max n 0) 8100).toNat
theorem txtN_len (f : UInt8) (k : Nat) : (txtN f k).length = k := by simp [txtN]
theorem txtN_step (f : UInt8) (k : Nat) : (txtN f k).map vb ++ [vb (f + ofb (k : Int))] = (txtN f (k + 1)).map vb := by
  unfold txtN; rw [List.range_succ, List.map_append, List.map_append]; rfl
/-- A reference's journal with its disk. -/
def RJR (K : JS → Res → Res → Res → Res → Prop) (B W : Dk.Dsk → Res) (J : JS) (S : Dk.Dsk) (v : Value) : Value → List PH → List Res → Prop := fun r zs hs => r = v ∧ zs = [] ∧ ∃ q1 q2 q3 q4, hs = [q1, q2, q3, q4, B S, W S] ∧ K J q1 q2 q3 q4
theorem wrN_ok {S : Dk.Dsk} (h : Dk.Ok S) (a : Int) (l : List (List UInt8)) : ∀ k, Dk.Ok (wrN S a l k).1
  | 0 => h
  | k + 1 => by
    rw [wrN]
    split
    · exact wrN_ok h a l k
    · exact Dk.ok_write (wrN_ok h a l k) _ _
end Jn
end

section
/-! Open, step by step -/
namespace Jn
open Go Go.Fw
theorem rds_len (S : Dk.Dsk) : (rds S).length = S.s.length := by simp [rds]
theorem rds_at {S : Dk.Dsk} {k : Nat} (h : k < S.s.length) : (rds S).getD k [] = (Dk.read S (k : Int)).1 := by
  unfold rds
  rw [List.getD_eq_getElem?_getD, List.getElem?_map, List.getElem?_range h]; rfl
theorem read_ok {S : Dk.Dsk} (hO : Dk.Ok S) (hf : S.off = false) {k : Nat} (h : k < S.s.length) : (Dk.read S (k : Int)).2 = 0 ∧ (Dk.read S (k : Int)).1.length = 64 := by
  have hi : 0 ≤ (k : Int) ∧ (k : Int) < S.s.length := by omega
  have hc := Dk.check_in (S := S) (by rw [hf]; simp) hi
  have hs := hO.at hi
  unfold Dk.read
  rw [if_pos hc]
  refine ⟨rfl, ?_⟩
  dsimp only
  split
  · exact hs.2.1 ‹_›
  · exact hs.1
def psN (R : List (List UInt8)) (k : Nat) : List Part := (R.take k).map unp
theorem psN_len {R : List (List UInt8)} {k : Nat} (h : k ≤ R.length) : (psN R k).length = k := by unfold psN; rw [List.length_map, List.length_take]; omega
theorem psN_step {R : List (List UInt8)} {k : Nat} (h : k < R.length) : (psN R k).flatMap ptC ++ ptC (unp (R.getD k [])) = (psN R (k + 1)).flatMap ptC := by
  unfold psN
  rw [take_snoc (d := ([] : List UInt8)) h, List.map_append, List.flatMap_append]; simp
theorem psN_ok {R : List (List UInt8)} {k : Nat} : ∀ x ∈ psN R k, PtOk x := fun x hx => by
  obtain ⟨s, _, rfl⟩ := List.mem_map.1 hx
  exact unp_ok s
theorem en_t {l : List (List UInt8)} {k : Nat} (h : l.getD k [] = z64) : enN l (k + 1) = enN l k := by rw [enN, if_pos h]
theorem en_f {l : List (List UInt8)} {k : Nat} (h : l.getD k [] ≠ z64) : enN l (k + 1) = (k : Int) + 1 := by rw [enN, if_neg h]
theorem bad_t {l : List (List UInt8)} {k : Nat} (h : (unp (l.getD k [])).ok = false ∧ l.getD k [] ≠ z64) : badN l (k + 1) = badN l k ++ [(k : Int)] := by rw [badN, if_pos h]
theorem bad_f {l : List (List UInt8)} {k : Nat} (h : ¬ ((unp (l.getD k [])).ok = false ∧ l.getD k [] ≠ z64)) : badN l (k + 1) = badN l k := by rw [badN, if_neg h]
theorem en_rng (l : List (List UInt8)) : ∀ k, 0 ≤ enN l k ∧ enN l k ≤ k
  | 0 => ⟨Int.le_refl _, Int.le_refl _⟩
  | k + 1 => by
    have := en_rng l k
    rw [enN]
    split <;> omega
theorem nx_rng (l : List (List UInt8)) : ∀ k, 1 ≤ nxN l k ∧ nxN l k ≤ 4097
  | 0 => ⟨Int.le_refl _, by show (1 : Int) ≤ 4097; decide⟩
  | k + 1 => by
    have := nx_rng l k
    have h := (unp_ok (l.getD k [])).1
    rw [nxN]; omega
theorem bad_rng (l : List (List UInt8)) : ∀ k, (badN l k).length ≤ k ∧ ∀ x ∈ badN l k, 0 ≤ x ∧ x < k
  | 0 => ⟨Nat.le_refl _, fun x hx => by cases hx⟩
  | k + 1 => by
    obtain ⟨h1, h2⟩ := bad_rng l k
    rw [badN]
    split
    · refine ⟨by rw [List.length_append]; simpa using h1, fun x hx => ?_⟩
      rcases List.mem_append.1 hx with hx | hx
      · have := h2 x hx; omega
      · have : x = (k : Int) := by simpa using hx
        omega
    · exact ⟨by omega, fun x hx => by have := h2 x hx; omega⟩
/-! the second pass -/
def AccOk (k : Nat) (a : Acc) : Prop := (a.1.length : Int) ≤ k ∧ a.2.length = a.1.length ∧ (∀ x ∈ a.1, 1 ≤ x ∧ x ≤ 4096) ∧ ∀ x ∈ a.2, x.length ≤ 8064
theorem AccOk.start : AccOk 0 ([], []) := by
  refine ⟨Int.le_refl _, rfl, ?_, ?_⟩
  · intro x hx; cases hx
  · intro x hx; cases hx
theorem AccOk.up {k m : Nat} {a : Acc} (h : AccOk k a) (hm : k ≤ m) : AccOk m a := ⟨by have := h.1; omega, h.2⟩
theorem AccOk.add {k m : Nat} {a : Acc} (h : AccOk k a) (hm : k < m) {n : Int} {t : List UInt8} (hn : 1 ≤ n ∧ n ≤ 4096) (ht : t.length ≤ 8064) : AccOk m (a.1 ++ [n], a.2 ++ [t]) := by
  obtain ⟨h1, h2, h3, h4⟩ := h
  refine ⟨by simp; omega, by simp [h2], fun x hx => ?_, fun x hx => ?_⟩
  · rcases List.mem_append.1 hx with hx | hx
    · exact h3 x hx
    · have : x = n := by simpa using hx
      omega
  · rcases List.mem_append.1 hx with hx | hx
    · exact h4 x hx
    · have : x = t := by simpa using hx
      subst this; exact ht
theorem recT_none {l : List Part} (h : (recT l).2.2 = false) : recd l = none := by
  unfold recT at h
  cases hr : recd l with
  | none => rfl
  | some q => rw [hr] at h; cases h
theorem recT_some {l : List Part} (h : (recT l).2.2 = true) : ∃ n : Nat, recd l = some ((recT l).1, n) ∧ (recT l).2.1 = n := by
  unfold recT at h ⊢
  cases hr : recd l with
  | none => rw [hr] at h; cases h
  | some q => exact ⟨q.2, rfl, rfl⟩
theorem recd_first {l : List Part} {t : List UInt8} {n : Nat} (h : recd l = some (t, n)) (hl : ∀ x ∈ l, PtOk x) : (f0 l).ok = true ∧ t.length ≤ 8064 := by
  cases l with
  | nil => cases h
  | cons f l =>
    rw [recd_cons] at h
    by_cases hc : f.ok = true ∧ f.p = 0 ∧ 1 ≤ cnt f.l ∧ cnt f.l ≤ (f :: l).length ∧ mts f 0 ((f :: l).take (cnt f.l).toNat) = true
    · rw [if_pos hc] at h
      injection h with h
      injection h with h h2
      refine ⟨hc.1, ?_⟩
      have h3 := txs_len (l := (f :: l).take (cnt f.l).toNat) fun x hx => hl x (List.mem_of_mem_take hx)
      have h4 := cnt_rng f.l
      rw [List.length_take] at h3
      rw [← h]; omega
    · rw [if_neg hc] at h; cases h
theorem unp_num {s : List UInt8} (h : (unp s).ok = true) : 1 ≤ (unp s).n := by
  by_cases hg : good s
  · rw [unp_good hg]; have := hg.2.2.1; dsimp only; omega
  · rw [unp_bad hg] at h; cases h
end Jn
end

section
/-! Open's end -/
namespace Jn
open Go Go.Fw
theorem nx_s (l : List (List UInt8)) (k : Nat) : nxN l (k + 1) = max (nxN l k) ((unp (l.getD k [])).n + 1) := rfl
theorem blank_bad {s : List UInt8} (h : (unp s).ok = true) : s ≠ z64 := fun e => by
  have := unp_num h
  subst e
  have h2 : ¬ good z64 := fun hg => by
    have h3 := hg.2.2.1
    have h4 : num z64 = 0 := by decide
    omega
  rw [unp_bad h2] at h; cases h
theorem en_ge {l : List (List UInt8)} {m : Nat} (h : l.getD m [] ≠ z64) : ∀ k, m < k → (m : Int) + 1 ≤ enN l k
  | 0, hk => by omega
  | k + 1, hk => by
    rw [enN]
    split
    · rename_i hz
      rcases Nat.lt_or_ge m k with h2 | h2
      · exact en_ge h k h2
      · rw [show k = m by omega] at hz; exact absurd hz h
    · omega
theorem psN_at {R : List (List UInt8)} {k n : Nat} (h : k < n) (hn : n ≤ R.length) : (psN R n).getD k p0 = unp (R.getD k []) := by
  unfold psN
  rw [List.getD_eq_getElem?_getD, List.getElem?_map, List.getElem?_take, if_pos h, List.getElem?_eq_getElem (by omega), List.getD_eq_getElem?_getD, List.getElem?_eq_getElem (by omega)]; rfl
theorem f0_drop (l : List Part) (m : Nat) : f0 (l.drop m) = l.getD m p0 := by
  unfold f0
  rw [List.getD_eq_getElem?_getD, List.getElem?_drop, List.getD_eq_getElem?_getD]; rfl
theorem opn_of {S : Dk.Dsk} {acc : Acc} (h : scan ((psN (rds S) S.s.length).drop S.s.length) acc = scan (psN (rds S) S.s.length) ([], [])) :
    opn S = ⟨acc.1, acc.2, badN (rds S) S.s.length, nxN (rds S) S.s.length, enN (rds S) S.s.length, false⟩ := by
  have hl := rds_len S
  rw [List.drop_of_length_le (by rw [psN_len (by omega)]; exact Nat.le_refl _), scan_nil] at h
  have e : (rds S).map unp = psN (rds S) S.s.length := by unfold psN; rw [List.take_of_length_le (by omega)]
  unfold opn ofl
  rw [hl, e, ← h]
theorem wf_opn {S : Dk.Dsk} {acc : Acc} (hO : Dk.Ok S) (ha : AccOk S.s.length acc) (hb : (acc.1.length : Int) ≤ enN (rds S) S.s.length) : Wf ⟨acc.1, acc.2, badN (rds S) S.s.length, nxN (rds S) S.s.length, enN (rds S) S.s.length, false⟩ := by
  have hh := hO.hi
  have h1 := nx_rng (rds S) S.s.length
  have h2 := en_rng (rds S) S.s.length
  have h3 := bad_rng (rds S) S.s.length
  exact ⟨h1.1, h1.2, h2.1, by show enN _ _ ≤ 4096; omega, hb, ha.2.1, by show ((badN _ _).length : Int) ≤ 4096; omega, ha.2.2.1, fun x hx => by have := h3.2 x hx; omega, ha.2.2.2⟩
end Jn
end

section
/-! the reference's Open: a record, by its inner loop -/
namespace Jn
open Go Go.Fw
def w0B (l : List Part) : Bool := (f0 l).ok && decide ((f0 l).p = 0) && decide (cnt (f0 l).l ≤ l.length)
end Jn
end

section
/-! sectors that were made are good; records that were made are found -/
namespace Jn
open Go Go.Fw
theorem lb_cons (n k : Nat) : lb n (k + 1) = UInt8.ofNat n :: lb (n / 256) k := by
  unfold lb
  rw [List.range_succ_eq_map, List.map_cons, List.map_map, Nat.pow_zero, Nat.div_one]
  congr 1
  refine List.map_congr_left fun i _ => ?_
  show UInt8.ofNat (n / 256 ^ (i + 1)) = UInt8.ofNat (n / 256 / 256 ^ i)
  rw [Nat.pow_succ, Nat.mul_comm, Nat.div_div_eq_div_mul]
theorem nb_lb : ∀ (k n : Nat), nb (lb n k) = n % 256 ^ k
  | 0, n => by show 0 = n % 1; omega
  | k + 1, n => by
    rw [lb_cons, nb_cons, nb_lb k, Nat.pow_succ, Nat.mul_comm (256 ^ k), Nat.mod_mul]
    have : (UInt8.ofNat n).toNat = n % 256 := by simp
    omega
theorem hd_4 (n k : Nat) (r : List UInt8) : (hd n k r).take 4 = lb n 4 := by
  unfold hd; rw [List.append_assoc, List.append_assoc, List.take_append_of_le_length (by rw [lb_len]; omega), List.take_of_length_le (by rw [lb_len]; omega)]
theorem hd_6 (n k : Nat) (r : List UInt8) : List.drop 4 ((hd n k r).take 6) = lb k 2 := by
  unfold hd
  rw [List.append_assoc, List.take_append_of_le_length (by simp [lb_len]), List.take_of_length_le (by simp [lb_len]), List.drop_left' (lb_len n 4)]
theorem hd_8 (n k : Nat) (r : List UInt8) : List.drop 6 ((hd n k r).take 8) = lb r.length 2 := by
  unfold hd
  rw [List.take_append_of_le_length (by simp [lb_len]), List.take_of_length_le (by simp [lb_len]), List.drop_left' (by simp [lb_len])]
theorem hd_d8 (n k : Nat) (r : List UInt8) : (hd n k r).drop 8 = pay r := by
  unfold hd; rw [List.drop_left' (by simp [lb_len])]
theorem sec_take (n : Int) (t : List UInt8) (k : Nat) : (sec n t k).take 56 = hd n.toNat k (t.drop (48 * k)) := by
  unfold sec chk; rw [List.take_left' (hd_len _ _ _)]
theorem take_take56 (s : List UInt8) {m : Nat} (h : m ≤ 56) : s.take m = (s.take 56).take m := by rw [List.take_take, Nat.min_eq_left h]
theorem sec_num (n : Int) (hn : 0 ≤ n ∧ n < 4294967296) (t : List UInt8) (k : Nat) : (num (sec n t k) : Int) = n := by
  unfold num; rw [take_take56 _ (by decide : 4 ≤ 56), sec_take, hd_4, nb_lb]; omega
theorem sec_par (n : Int) (t : List UInt8) (k : Nat) (hk : k < 65536) : par (sec n t k) = k := by
  unfold par; rw [take_take56 _ (by decide : 6 ≤ 56), sec_take, hd_6, nb_lb]; omega
theorem sec_lft (n : Int) (t : List UInt8) (k : Nat) (ht : t.length < 65536) : lft (sec n t k) = t.length - 48 * k := by
  unfold lft; rw [take_take56 _ (by decide : 8 ≤ 56), sec_take, hd_8, nb_lb, List.length_drop]; omega
theorem cnt_k {t : List UInt8} (ht : t.length ≤ 8000) {k : Nat} (hk : k < (cnt t.length).toNat) : k ≤ 166 ∧ 48 * k ≤ t.length ∧ (0 < k → 48 * k < t.length) := by
  have h := cnt_rng t.length
  by_cases h0 : t.length = 0
  · rw [h0] at hk
    have : k < 1 := hk
    omega
  · rw [cnt_4 (by omega)] at hk; omega
theorem pay_drop (r : List UInt8) : (pay r).drop (min r.length 48) = List.replicate (48 - min r.length 48) 0 := by
  unfold pay
  rw [List.drop_left' (by rw [List.length_take]; omega)]
  congr 1; omega
theorem pay_take (r : List UInt8) : (pay r).take (min r.length 48) = r.take 48 := by
  unfold pay
  rw [List.take_left' (by rw [List.length_take]; omega)]
theorem sec_good {n : Int} (hn : 1 ≤ n ∧ n ≤ 4096) {t : List UInt8} (ht : t.length ≤ 8000) {k : Nat} (hk : k < (cnt t.length).toNat) : good (sec n t k) := by
  have hc := cnt_k ht hk
  have h1 := sec_num n (by omega) t k
  have h2 := sec_par n t k (by omega)
  have h3 := sec_lft n t k (by omega)
  refine ⟨sec_len _ _ _, by rw [sec_take]; rfl, by omega, by omega, by omega, by omega, ?_⟩
  have e : inn (sec n t k) = min (t.drop (48 * k)).length 48 := by unfold inn; rw [h3, List.length_drop]
  rw [e, sec_take, ← List.drop_drop, hd_d8, pay_drop]
theorem unp_sec {n : Int} (hn : 1 ≤ n ∧ n ≤ 4096) {t : List UInt8} (ht : t.length ≤ 8000) {k : Nat} (hk : k < (cnt t.length).toNat) : unp (sec n t k) = ⟨n, k, t.length - 48 * k, (t.drop (48 * k)).take 48, true⟩ := by
  have hc := cnt_k ht hk
  have h1 := sec_num n (by omega) t k
  have h2 := sec_par n t k (by omega)
  have h3 := sec_lft n t k (by omega)
  rw [unp_good (sec_good hn ht hk)]
  have e : inn (sec n t k) = min (t.drop (48 * k)).length 48 := by unfold inn; rw [h3, List.length_drop]
  have e4 : List.drop 8 ((sec n t k).take (8 + inn (sec n t k))) = (t.drop (48 * k)).take 48 := by
    rw [e, take_take56 _ (by omega), sec_take, List.drop_take, hd_d8, Nat.add_sub_cancel_left, pay_take]
  rw [e4, h1, h2, h3]
  congr 1
  omega
/-! ### records -/
theorem mts_all {f : Part} : ∀ (l : List Part) (k : Nat), (∀ i, i < l.length → mt f (k + i) (l.getD i p0) = true) → mts f k l = true
  | [], _, _ => rfl
  | q :: l, k, h => by
    show (mt f k q && mts f (k + 1) l) = true
    have h9 : mt f k q = true := h 0 (by simp)
    rw [h9, mts_all l (k + 1) fun i hi => by
      have := h (i + 1) (by simpa using hi)
      rwa [List.getD_cons_succ, show k + (i + 1) = k + 1 + i by omega] at this]
    rfl
def sp (n : Int) (t : List UInt8) (k : Nat) : Part := ⟨n, k, t.length - 48 * k, (t.drop (48 * k)).take 48, true⟩
def sps (n : Int) (t : List UInt8) : List Part := (List.range (cnt t.length).toNat).map (sp n t)
theorem sps_len (n : Int) (t : List UInt8) : (sps n t).length = (cnt t.length).toNat := by simp [sps]
theorem sps_at (n : Int) (t : List UInt8) {k : Nat} (hk : k < (cnt t.length).toNat) : (sps n t).getD k p0 = sp n t k := by
  unfold sps
  rw [List.getD_eq_getElem?_getD, List.getElem?_map, List.getElem?_range hk]; rfl
theorem txs_chunks (t : List UInt8) : ∀ c : Nat, (List.range c).flatMap (fun k => (t.drop (48 * k)).take 48) = t.take (48 * c)
  | 0 => rfl
  | c + 1 => by
    rw [List.range_succ, List.flatMap_append, txs_chunks t c, show 48 * (c + 1) = 48 * c + 48 by omega, List.take_add]
    simp
theorem sps_txs {n : Int} {t : List UInt8} (ht : t.length ≤ 8000) : txs (sps n t) = t := by
  unfold txs sps
  rw [List.flatMap_map]
  have h := cnt_hi (n := t.length) (by omega)
  have := txs_chunks t (cnt t.length).toNat
  have e : (List.range (cnt t.length).toNat).flatMap (fun a => (sp n t a).t) = (List.range (cnt t.length).toNat).flatMap (fun k => (t.drop (48 * k)).take 48) := rfl
  rw [e, this, List.take_of_length_le (by omega)]
theorem sps_mts (n : Int) (t : List UInt8) : mts (sp n t 0) 0 (sps n t) = true := mts_all _ _ fun i hi => by
  rw [sps_at n t (by rw [sps_len] at hi; exact hi), Nat.zero_add]
  unfold mt sp
  simp
theorem cnt_1le {t : List UInt8} (ht : t.length ≤ 8000) : 1 ≤ (cnt t.length).toNat := by
  have := cnt_pos (n := t.length) (by omega); omega
/-- A record that was made is found. -/
theorem recd_sps {n : Int} {t : List UInt8} (ht : t.length ≤ 8000) (Q : List Part) : recd (sps n t ++ Q) = some (t, (cnt t.length).toNat) := by
  have hc := cnt_1le ht
  have hl := sps_len n t
  have h0 : sps n t ++ Q ≠ [] := fun e => by
    have := congrArg List.length e
    rw [List.length_append, hl] at this
    have : (cnt t.length).toNat + Q.length = 0 := this
    omega
  have hf : f0 (sps n t ++ Q) = sp n t 0 := by
    unfold f0
    rw [List.getD_eq_getElem?_getD, List.getElem?_append_left (by omega), ← List.getD_eq_getElem?_getD, sps_at n t (by omega)]
  have hl2 : (sp n t 0).l = t.length := by unfold sp; dsimp only; omega
  rw [recd_if h0, hf, hl2, List.take_left' hl, if_pos ⟨rfl, rfl, by omega, by rw [List.length_append, hl]; omega, sps_mts n t⟩, sps_txs ht]
/-! ### what is passed over -/
theorem scan_skip {l : List Part} {a : Acc} : ∀ m, (∀ i, i < m → recd (l.drop i) = none) → scan l a = scan (l.drop m) a
  | 0, _ => by rw [List.drop_zero]
  | m + 1, h => by
    rw [scan_skip m fun i hi => h i (by omega)]
    by_cases hd : l.drop m = []
    · have e : l.drop (m + 1) = [] := by rw [← List.drop_drop, hd]; rfl
      rw [hd, e]
    · rw [scan_none hd (h m (by omega)), List.drop_drop]
theorem recd_bad {l : List Part} (h : (f0 l).ok = false ∨ (f0 l).p ≠ 0) : recd l = none := by
  cases l with
  | nil => rfl
  | cons f l =>
    rw [recd_cons, if_neg]
    rintro ⟨h1, h2, _⟩
    rcases h with h | h
    · rw [show f0 (f :: l) = f from rfl, h1] at h; cases h
    · exact h h2
theorem recd_hole {l : List Part} {j : Nat} (hj : (j : Int) < cnt (f0 l).l) (hb : (l.getD j p0).ok = false) : recd l = none := by
  by_cases h0 : l = []
  · rw [h0]; rfl
  rw [recd_if h0, if_neg]
  rintro ⟨_, _, _, h4, h5⟩
  have hlen : (l.take (cnt (f0 l).l).toNat).length = (cnt (f0 l).l).toNat := by rw [List.length_take]; omega
  have e : (l.take (cnt (f0 l).l).toNat).getD j p0 = l.getD j p0 := by
    rw [List.getD_eq_getElem?_getD, List.getElem?_take, if_pos (by omega), List.getD_eq_getElem?_getD]
  rw [mts_stop (l := l.take (cnt (f0 l).l).toNat) (k := j) (by omega) (.inl (.inl (.inl (by rw [e]; exact hb))))] at h5
  cases h5
/-- A record of which a sector is not good is passed over, if its other sectors are as they were made. -/
theorem scan_hole {n : Int} {t : List UInt8} {A Q : List Part} {a : Acc} (ht : t.length ≤ 8000) (hl : A.length = (cnt t.length).toNat) (hA : ∀ i, i < A.length → A.getD i p0 = sp n t i ∨ (A.getD i p0).ok = false) {j : Nat} (hj : j < A.length) (hb : (A.getD j p0).ok = false) : scan (A ++ Q) a = scan Q a := by
  have hd : (A ++ Q).drop A.length = Q := List.drop_left' rfl
  rw [scan_skip A.length, hd]
  intro i hi
  have hf : f0 ((A ++ Q).drop i) = A.getD i p0 := by
    rw [f0_drop, List.getD_eq_getElem?_getD, List.getElem?_append_left hi, List.getD_eq_getElem?_getD]
  rcases hA i hi with h | h
  · by_cases h0 : i = 0
    · subst h0
      rw [List.drop_zero] at hf ⊢
      refine recd_hole (j := j) ?_ ?_
      · rw [hf, h]; show (j : Int) < cnt ((t.length : Int) - 48 * (0 : Nat)); rw [show ((t.length : Int) - 48 * (0 : Nat)) = t.length by omega]; omega
      · rw [List.getD_eq_getElem?_getD, List.getElem?_append_left hj, ← List.getD_eq_getElem?_getD]; exact hb
    · exact recd_bad (.inr (by rw [hf, h]; show (i : Int) ≠ 0; omega))
  · exact recd_bad (.inl (by rw [hf]; exact h))
theorem scan_whole {n : Int} {t : List UInt8} {Q : List Part} {a : Acc} (ht : t.length ≤ 8000) : scan (sps n t ++ Q) a = scan Q (addR a n t) := by
  have hc := cnt_1le ht
  have hl := sps_len n t
  rw [scan_some (recd_sps ht Q), List.drop_left' hl]
  have : (sps n t ++ Q).getD 0 p0 = sp n t 0 := by rw [List.getD_eq_getElem?_getD, List.getElem?_append_left (by omega), ← List.getD_eq_getElem?_getD, sps_at n t (by omega)]
  rw [this]; rfl
theorem scan_blank {Q : List Part} {a : Acc} (h : ∀ x ∈ Q, x.ok = false) : scan Q a = a := by
  rw [scan_skip Q.length, List.drop_length]; rfl
  intro i hi
  refine recd_bad (.inl ?_)
  rw [f0_drop, List.getD_eq_getElem?_getD, List.getElem?_eq_getElem hi]
  exact h _ (List.getElem_mem hi)
theorem unp_z64 : unp z64 = p0 := unp_bad fun hg => by
  have h3 := hg.2.2.1
  have h4 : num z64 = 0 := by decide
  omega
end Jn
end

section
/-! what a record's writes leave on a disk -/
namespace Jn
open Go Go.Fw
/-- No failure of the power is set, and nothing is pending. -/
structure Still (S : Dk.Dsk) : Prop where
  off : S.off = false
  left : S.left = -1
  dt : ∀ x ∈ S.s, x.dt = false
theorem step_c (S : Dk.Dsk) : ((Dk.step S).2 = 0 ∧ (Dk.step S).1.s = S.s ∧ (Dk.step S).1.off = S.off) ∨ ((Dk.step S).2 = 23 ∧ (Dk.step S).1.s = S.s) := by
  unfold Dk.step
  split
  · exact .inr ⟨rfl, rfl⟩
  · split
    · exact .inl ⟨rfl, rfl, rfl⟩
    · exact .inl ⟨rfl, rfl, rfl⟩
theorem getD_set {α : Type} (l : List α) (i j : Nat) (x d : α) : (l.set i x).getD j d = if j = i ∧ i < l.length then x else l.getD j d := by
  rw [List.getD_eq_getElem?_getD, List.getElem?_set, List.getD_eq_getElem?_getD]
  by_cases h : i = j
  · subst h
    by_cases h2 : i < l.length
    · rw [if_pos rfl, if_pos h2, if_pos ⟨rfl, h2⟩]; rfl
    · rw [if_pos rfl, if_neg h2, if_neg (fun e => h2 e.2), List.getElem?_eq_none (by omega)]
  · rw [if_neg h, if_neg (fun e => h e.1.symm)]
def wmark (S : Dk.Dsk) (a : Nat) (l : List (List UInt8)) (k j : Nat) : Dk.Sec := if a ≤ j ∧ j < a + k then ⟨(S.s.getD j Dk.s0).tx, l.getD (j - a) [], true, (S.s.getD j Dk.s0).wn⟩ else S.s.getD j Dk.s0
theorem wrN_at {S : Dk.Dsk} (hf : S.off = false) {a : Int} {l : List (List UInt8)} (ha : 0 ≤ a) (hal : a + l.length ≤ S.s.length) (hl : ∀ x ∈ l, x.length = 64) : ∀ k, k ≤ l.length → (wrN S a l k).2 = 0 →
    (wrN S a l k).1.off = false ∧ (wrN S a l k).1.s.length = S.s.length ∧ ∀ j, j < S.s.length → (wrN S a l k).1.s.getD j Dk.s0 = wmark S a.toNat l k j := by
  intro k
  induction k with
  | zero => intro _ _; refine ⟨hf, rfl, fun j hj => ?_⟩; unfold wmark; rw [if_neg (by omega)]; rfl
  | succ k ih =>
    intro hk h
    have h0 : (wrN S a l k).2 = 0 := by
      by_cases h1 : (wrN S a l k).2 = 0
      · exact h1
      · rw [wrN, if_pos h1] at h; exact h
    obtain ⟨i1, i2, i3⟩ := ih (by omega) h0
    rw [wrN_succ h0] at h ⊢
    generalize (wrN S a l k).1 = W at i1 i2 i3 h ⊢
    have hc : Dk.check W (a + k) = 0 := Dk.check_in (by rw [i1]; simp) (by rw [i2]; omega)
    have h64 : (l.getD k []).length = 64 := hl _ (Dk.getD_mem (by omega))
    rcases step_c W with ⟨s1, s2, s3⟩ | ⟨s1, s2⟩
    · rw [Dk.write_4 hc h64 s1]
      refine ⟨by unfold Dk.mark Dk.Dsk.put; dsimp only; rw [s3]; exact i1, by rw [Dk.mark_len, s2]; exact i2, fun j hj => ?_⟩
      unfold Dk.mark Dk.Dsk.put Dk.Dsk.at
      dsimp only
      rw [s2, getD_set, show (a + (k : Int)).toNat = a.toNat + k by omega]
      by_cases hj2 : j = a.toNat + k
      · rw [if_pos ⟨hj2, by omega⟩, hj2, i3 _ (by omega)]
        unfold wmark
        rw [if_neg (by omega), if_pos (by omega), Nat.add_sub_cancel_left]
      · rw [if_neg (fun e => hj2 e.1), i3 j hj]
        unfold wmark
        by_cases hj3 : a.toNat ≤ j ∧ j < a.toNat + k
        · rw [if_pos hj3, if_pos (by omega)]
        · rw [if_neg hj3, if_neg (by omega)]
    · rw [Dk.write_3 hc h64 (by omega)] at h; omega
theorem wrN_left {S : Dk.Dsk} (hf : S.off = false) (hq : S.left = -1) {a : Int} {l : List (List UInt8)} (ha : 0 ≤ a) (hal : a + l.length ≤ S.s.length) (hl : ∀ x ∈ l, x.length = 64) : ∀ k, k ≤ l.length → (wrN S a l k).2 = 0 ∧ (wrN S a l k).1.left = -1 := by
  intro k
  induction k with
  | zero => intro _; exact ⟨rfl, hq⟩
  | succ k ih =>
    intro hk
    obtain ⟨h1, h2⟩ := ih (by omega)
    obtain ⟨i1, i2, i3⟩ := wrN_at hf ha hal hl k (by omega) h1
    rw [wrN_succ h1]
    generalize (wrN S a l k).1 = W at i1 i2 i3 h2 ⊢
    have hc : Dk.check W (a + k) = 0 := Dk.check_in (by rw [i1]; simp) (by rw [i2]; omega)
    have h64 : (l.getD k []).length = 64 := hl _ (Dk.getD_mem (by omega))
    have hs := Dk.step_2 (S := W) (by omega)
    rw [Dk.write_4 hc h64 (by rw [hs]), hs]
    exact ⟨rfl, h2⟩
/-- What stands there behind a flush. -/
def wdone (S : Dk.Dsk) (a : Nat) (l : List (List UInt8)) (j : Nat) : Dk.Sec := if a ≤ j ∧ j < a + l.length then ⟨if (S.s.getD j Dk.s0).wn then (S.s.getD j Dk.s0).tx else l.getD (j - a) [], [], false, (S.s.getD j Dk.s0).wn⟩ else S.s.getD j Dk.s0
theorem settle_64 {x : Dk.Sec} (h1 : x.nx.length = 64) (h2 : x.tx.length = 64) : Dk.settle1 x 64 = ⟨if x.wn then x.tx else x.nx, [], false, x.wn⟩ := by
  unfold Dk.settle1
  rw [show Dk.cl 64 = 64 from by decide, List.take_of_length_le (by omega), List.drop_eq_nil_of_le (by omega), List.append_nil]
theorem sec_at {S : Dk.Dsk} (hO : Dk.Ok S) {j : Nat} (hj : j < S.s.length) : Dk.SecOk (S.s.getD j Dk.s0) := hO.sec _ (Dk.getD_mem hj)
theorem dt_at {S : Dk.Dsk} (h : ∀ x ∈ S.s, x.dt = false) {j : Nat} (hj : j < S.s.length) : (S.s.getD j Dk.s0).dt = false := h _ (Dk.getD_mem hj)
theorem mem_at {α : Type} {l : List α} {x d : α} (h : x ∈ l) : ∃ j, j < l.length ∧ x = l.getD j d := by
  obtain ⟨j, hj, rfl⟩ := List.getElem_of_mem h
  exact ⟨j, hj, by rw [List.getD_eq_getElem?_getD, List.getElem?_eq_getElem hj]; rfl⟩
theorem flushed {S W : Dk.Dsk} (hO : Dk.Ok S) (hd : ∀ x ∈ S.s, x.dt = false) {a : Nat} {l : List (List UInt8)} (hl : ∀ x ∈ l, x.length = 64) (hal : a + l.length ≤ S.s.length)
    (hw : W.s.length = S.s.length) (h : ∀ j, j < S.s.length → W.s.getD j Dk.s0 = wmark S a l l.length j) : ∀ j, j < S.s.length → (Dk.mntL [] 0 W.s).getD j Dk.s0 = wdone S a l j := by
  intro j hj
  rw [Dk.mntL_at [] W.s 0 0 j (by omega), h j hj]
  have hx := sec_at hO hj
  unfold wmark wdone
  by_cases hr : a ≤ j ∧ j < a + l.length
  · rw [if_pos hr, if_pos hr, if_pos rfl, Dk.pk_nil]
    exact settle_64 (x := ⟨_, l.getD (j - a) [], true, _⟩) (hl _ (Dk.getD_mem (by omega))) hx.1
  · rw [if_neg hr, if_neg hr, if_neg (by rw [dt_at hd hj]; simp)]
theorem rdN_all {F : Dk.Dsk} {a : Nat} {l : List (List UInt8)} (hf : F.off = false) (hd : ∀ x ∈ F.s, x.dt = false) (hal : a + l.length ≤ F.s.length) : ∀ k, k ≤ l.length →
    rdN F (a : Int) l k = (0, decide (∀ i, i < k → l.getD i [] = (F.s.getD (a + i) Dk.s0).tx)) := by
  intro k
  induction k with
  | zero => intro _; show ((0 : Int), true) = _; rw [decide_eq_true]; intro i hi; omega
  | succ k ih =>
    intro hk
    have h1 := ih (by omega)
    have hi : 0 ≤ (a : Int) + k ∧ (a : Int) + k < F.s.length := by omega
    have hc := Dk.check_in (S := F) (by rw [hf]; simp) hi
    have hr : Dk.read F (a + k) = ((F.s.getD (a + k) Dk.s0).tx, 0) := by
      have ht : F.at ((a : Int) + k) = F.s.getD (a + k) Dk.s0 := by unfold Dk.Dsk.at; rw [show ((a : Int) + k).toNat = a + k by omega]
      rw [Dk.read_tx hc (by rw [ht, dt_at hd (by omega)]; simp), ht]
    rw [rdN_succ (by rw [h1]) (by rw [hr]), hr, h1]
    congr 1
    rw [← Bool.decide_and]
    refine decide_eq_decide.2 ⟨fun hx i hi => ?_, fun hx => ⟨fun i hi => hx i (by omega), hx k (by omega)⟩⟩
    rcases Nat.lt_or_ge i k with h2 | h2
    · exact hx.1 i h2
    · rw [show i = k by omega]; exact hx.2
/-- Writes, flush and reads on a disk without a failure of the power. -/
theorem wfr_still {S : Dk.Dsk} (hO : Dk.Ok S) (hS : Still S) {a : Nat} {l : List (List UInt8)} (hl : ∀ x ∈ l, x.length = 64) (hal : a + l.length ≤ S.s.length) :
    ∃ F, Still F ∧ Dk.Ok F ∧ F.s.length = S.s.length ∧ (∀ j, j < S.s.length → F.s.getD j Dk.s0 = wdone S a l j) ∧ wfr S (a : Int) l = (F, 0, decide (∀ i, i < l.length → l.getD i [] = (F.s.getD (a + i) Dk.s0).tx)) := by
  obtain ⟨h1, h2⟩ := wrN_left hS.off hS.left (a := (a : Int)) (l := l) (by omega) (by omega) hl l.length (Nat.le_refl _)
  obtain ⟨i1, i2, i3⟩ := wrN_at hS.off (a := (a : Int)) (l := l) (by omega) (by omega) hl l.length (Nat.le_refl _) h1
  rw [Int.toNat_natCast] at i3
  have hOW := wrN_ok hO (a : Int) l l.length
  have hfl : Dk.flush (wrN S a l l.length).1 = (⟨Dk.mntL [] 0 (wrN S a l l.length).1.s, false, -1⟩, 0) := by
    unfold Dk.flush
    have hs := Dk.step_2 (S := (wrN S a l l.length).1) (by omega)
    rw [if_neg (by rw [i1]; simp), hs, if_neg (by simp), i1, h2]
  have hfd := flushed hO hS.dt hl hal i2 i3
  have hlen : (Dk.mntL [] 0 (wrN S a l l.length).1.s).length = S.s.length := by rw [Dk.mntL_len, i2]
  have hdt : ∀ x ∈ Dk.mntL [] 0 (wrN S a l l.length).1.s, x.dt = false := fun x hx => by
    obtain ⟨j, hj, rfl⟩ := mem_at (d := Dk.s0) hx
    rw [hfd j (by omega)]
    unfold wdone
    split
    · rfl
    · exact dt_at hS.dt (by omega)
  have hOF := Dk.ok_flush hOW
  rw [hfl] at hOF
  refine ⟨⟨Dk.mntL [] 0 (wrN S a l l.length).1.s, false, -1⟩, ⟨rfl, rfl, hdt⟩, hOF, hlen, hfd, ?_⟩
  have hrd := rdN_all (F := ⟨Dk.mntL [] 0 (wrN S a l l.length).1.s, false, -1⟩) (a := a) (l := l) rfl hdt (by show a + l.length ≤ (Dk.mntL _ _ _).length; omega) l.length (Nat.le_refl _)
  rw [wfr_4 (F := ⟨Dk.mntL [] 0 (wrN S a l l.length).1.s, false, -1⟩) (by rw [hfl]) h1 (by rw [hfl]) (by rw [hrd]), hrd]
end Jn
end

section
/-! a journal on a disk with worn sectors: what was appended is found -/
namespace Jn
open Go Go.Fw
def txa (S : Dk.Dsk) (j : Nat) : List UInt8 := (S.s.getD j Dk.s0).tx
def pts (S : Dk.Dsk) : List Part := (List.range S.s.length).map fun j => unp (txa S j)
theorem still_read {S : Dk.Dsk} (hS : Still S) {k : Nat} (hk : k < S.s.length) : (Dk.read S (k : Int)).1 = txa S k := by
  have hc := Dk.check_in (S := S) (i := (k : Int)) (by rw [hS.off]; simp) (by omega)
  have ht : S.at (k : Int) = S.s.getD k Dk.s0 := by unfold Dk.Dsk.at; rw [Int.toNat_natCast]
  rw [Dk.read_tx hc (by rw [ht, dt_at hS.dt hk]; simp), ht]; rfl
theorem still_rds {S : Dk.Dsk} (hS : Still S) : rds S = (List.range S.s.length).map (txa S) := List.map_congr_left fun k hk => still_read hS (List.mem_range.1 hk)
theorem still_pts {S : Dk.Dsk} (hS : Still S) : (rds S).map unp = pts S := by rw [still_rds hS, List.map_map]; rfl
theorem pts_len (S : Dk.Dsk) : (pts S).length = S.s.length := by simp [pts]
theorem secs_at (n : Int) (t : List UInt8) {k : Nat} (hk : k < (cnt t.length).toNat) : (secs n t).getD k [] = sec n t k := by
  unfold secs
  rw [List.getD_eq_getElem?_getD, List.getElem?_map, List.getElem?_range hk]; rfl
theorem secs_64 {n : Int} {t : List UInt8} : ∀ x ∈ secs n t, x.length = 64 := fun x hx => by
  obtain ⟨k, _, rfl⟩ := List.mem_map.1 hx
  exact sec_len _ _ _
theorem pts_take {S : Dk.Dsk} {a : Nat} (h : a ≤ S.s.length) : (pts S).take a = (List.range a).map fun j => unp (txa S j) := by
  unfold pts; rw [← List.map_take, List.take_range, Nat.min_eq_left h]
theorem pts_stretch {S F : Dk.Dsk} {a c : Nat} (hl : F.s.length = S.s.length) (hal : a + c ≤ S.s.length) (h : ∀ j, j < a → txa F j = txa S j) :
    (pts F).take (a + c) = (pts S).take a ++ (List.range c).map fun i => unp (txa F (a + i)) := by
  rw [pts_take (by omega), pts_take (by omega), List.range_add, List.map_append, List.map_map]
  congr 1
  exact List.map_congr_left fun j hj => by rw [h j (List.mem_range.1 hj)]
structure Gon (S : Dk.Dsk) (J : JS) : Prop where
  ok : Dk.Ok S
  still : Still S
  cl : J.cl = false
  wf : Wf J
  en : J.en ≤ S.s.length
  lt : ∀ x ∈ J.nums, x < J.next
  sc : ∀ Q, scan ((pts S).take J.en.toNat ++ Q) ([], []) = scan Q (J.nums, J.tx)
  bl : ∀ j, J.en.toNat ≤ j → j < S.s.length → txa S j = z64
theorem map_getD {α : Type} (f : Nat → α) {c i : Nat} (h : i < c) (d : α) : ((List.range c).map f).getD i d = f i := by
  rw [List.getD_eq_getElem?_getD, List.getElem?_map, List.getElem?_range h]; rfl
theorem range_len {α : Type} (f : Nat → α) (c : Nat) : ((List.range c).map f).length = c := by simp
theorem wdone_lo {S : Dk.Dsk} {a : Nat} {l : List (List UInt8)} {j : Nat} (h : j < a) : wdone S a l j = S.s.getD j Dk.s0 := by unfold wdone; rw [if_neg (by omega)]
theorem wdone_hi {S : Dk.Dsk} {a : Nat} {l : List (List UInt8)} {j : Nat} (h : a + l.length ≤ j) : wdone S a l j = S.s.getD j Dk.s0 := by unfold wdone; rw [if_neg (by omega)]
theorem wdone_in {S : Dk.Dsk} {a : Nat} {l : List (List UInt8)} {i : Nat} (h : i < l.length) : (wdone S a l (a + i)).tx = if (S.s.getD (a + i) Dk.s0).wn then txa S (a + i) else l.getD i [] := by
  unfold wdone; rw [if_pos (by omega), Nat.add_sub_cancel_left]; rfl
theorem gon_app {S : Dk.Dsk} {J : JS} (h : Gon S J) {t : List UInt8} (ht : t.length ≤ 8000) (hn : J.next ≤ 4096) (hr : ¬ room J S < cnt t.length) :
    ∃ F b, Gon F (if b = true then J3 J t else J1 J t) ∧ wfr S J.en (secs J.next t) = (F, 0, b) ∧ F.s.length = S.s.length ∧ (∀ j, j < S.s.length → F.s.getD j Dk.s0 = wdone S J.en.toNat (secs J.next t) j) ∧ (b = true ↔ ∀ i, i < (cnt t.length).toNat → txa F (J.en.toNat + i) = sec J.next t i) := by
  have hn1 := h.wf.n1
  have he1 := h.wf.e1
  have hc0 := cnt_rng t.length
  have hsl := secs_len J.next t
  have hR := hr
  unfold room at hR
  have hea : ((J.en.toNat : Nat) : Int) = J.en := by omega
  obtain ⟨F, hF, hOF, hlen, hat, hw⟩ := wfr_still h.ok h.still (a := J.en.toNat) (l := secs J.next t) secs_64 (by rw [hsl]; omega)
  rw [hea] at hw
  have hin : ∀ i, i < (cnt t.length).toNat → txa F (J.en.toNat + i) = if (S.s.getD (J.en.toNat + i) Dk.s0).wn then z64 else sec J.next t i := fun i hi => by
    unfold txa
    rw [hat _ (by omega), wdone_in (by omega), secs_at _ _ hi, h.bl _ (by omega) (by omega)]
  have hlo : ∀ j, j < J.en.toNat → txa F j = txa S j := fun j hj => by unfold txa; rw [hat _ (by omega), wdone_lo hj]
  have hhi : ∀ j, J.en.toNat + (cnt t.length).toNat ≤ j → j < S.s.length → txa F j = z64 := fun j hj hj2 => by
    have := h.bl j (by omega) hj2
    unfold txa at this ⊢
    rw [hat _ (by omega), wdone_hi (by omega)]; exact this
  have hst := pts_stretch (c := (cnt t.length).toNat) hlen (by omega) hlo
  have hlen2 : ((secs J.next t).length : Int) = cnt t.length := by rw [hsl]; omega
  have hwf1 := wf_1 h.wf (by have := h.ok.hi; omega) ⟨ht, hn⟩ hr
  have hen : (J.en + ((secs J.next t).length : Int)).toNat = J.en.toNat + (cnt t.length).toNat := by omega
  by_cases hb : ∀ i, i < (cnt t.length).toNat → txa F (J.en.toNat + i) = sec J.next t i
  · refine ⟨F, true, ?_, ?_, hlen, hat, ⟨fun _ => hb, fun _ => rfl⟩⟩
    · rw [if_pos rfl]
      have hA : ((List.range (cnt t.length).toNat).map fun i => unp (txa F (J.en.toNat + i))) = sps J.next t := List.map_congr_left fun i hi => by
        have hi := List.mem_range.1 hi
        rw [hb i hi]; exact unp_sec ⟨hn1, hn⟩ ht hi
      refine ⟨hOF, hF, h.cl, wf_3 h.wf hwf1 ⟨ht, hn⟩, ?_, ?_, ?_, ?_⟩
      · show J.en + ((secs J.next t).length : Int) ≤ F.s.length
        omega
      · intro x hx
        show x < J.next + 1
        rcases List.mem_append.1 hx with hx | hx
        · have := h.lt x hx; omega
        · have : x = J.next := by simpa using hx
          omega
      · intro Q
        show scan ((pts F).take (J.en + ((secs J.next t).length : Int)).toNat ++ Q) ([], []) = scan Q (J.nums ++ [J.next], J.tx ++ [t])
        rw [hen, hst, hA, List.append_assoc, h.sc, scan_whole ht]
        unfold addR
        rw [if_neg (fun hm => by have := h.lt _ hm; omega)]
      · intro j hj hj2
        exact hhi j (by rw [← hen]; exact hj) (by omega)
    · rw [hw, decide_eq_true]
      intro i hi
      rw [hsl] at hi
      rw [secs_at _ _ hi]; exact (hb i hi).symm
  · refine ⟨F, false, ?_, ?_, hlen, hat, ⟨fun e => (by cases e), fun e => absurd e hb⟩⟩
    · rw [if_neg (by simp)]
      refine ⟨hOF, hF, h.cl, hwf1, ?_, ?_, ?_, ?_⟩
      · show J.en + ((secs J.next t).length : Int) ≤ F.s.length
        omega
      · intro x hx
        show x < J.next + 1
        have := h.lt x hx; omega
      · intro Q
        show scan ((pts F).take (J.en + ((secs J.next t).length : Int)).toNat ++ Q) ([], []) = scan Q (J.nums, J.tx)
        rw [hen, hst, List.append_assoc, h.sc]
        have hx : ∀ i, i < (cnt t.length).toNat → unp (txa F (J.en.toNat + i)) = sp J.next t i ∨ (unp (txa F (J.en.toNat + i))).ok = false := fun i hi => by
          rw [hin i hi]
          split
          · right; rw [unp_z64]; rfl
          · left; exact unp_sec ⟨hn1, hn⟩ ht hi
        obtain ⟨i, hi, hne⟩ : ∃ i, i < (cnt t.length).toNat ∧ ¬ txa F (J.en.toNat + i) = sec J.next t i := by
          apply Classical.byContradiction
          intro hno
          exact hb fun i hi => Classical.byContradiction fun he => hno ⟨i, hi, he⟩
        refine scan_hole (n := J.next) (t := t) ht (range_len _ _) (fun i hi => ?_) (j := i) (by rw [range_len]; exact hi) ?_
        · rw [range_len] at hi
          rw [map_getD _ hi]; exact hx i hi
        · rw [map_getD _ hi, hin i hi]
          rw [hin i hi] at hne
          split
          · rw [unp_z64]; rfl
          · rename_i hw2; rw [if_neg hw2] at hne; exact absurd rfl hne
      · intro j hj hj2
        exact hhi j (by rw [← hen]; exact hj) (by omega)
    · rw [hw, decide_eq_false]
      intro he
      refine hb fun i hi => ?_
      have := he i (by omega)
      rw [secs_at _ _ hi] at this; exact this.symm
theorem blank_none {l : List (List UInt8)} (h : ∀ j, j < l.length → l.getD j [] = z64) : ofl l = ⟨[], [], [], 1, 0, false⟩ := by
  have h1 : ∀ k, k ≤ l.length → badN l k = [] ∧ nxN l k = 1 ∧ enN l k = 0 := by
    intro k
    induction k with
    | zero => intro _; exact ⟨rfl, rfl, rfl⟩
    | succ k ih =>
      intro hk
      obtain ⟨a1, a2, a3⟩ := ih (by omega)
      have hz := h k (by omega)
      refine ⟨by rw [badN, if_neg (fun e => e.2 hz), a1], by rw [nxN, a2, hz, unp_z64]; rfl, by rw [enN, if_pos hz, a3]⟩
  have h2 : scan (l.map unp) ([], []) = ([], []) := scan_blank fun x hx => by
    obtain ⟨s, hs, rfl⟩ := List.mem_map.1 hx
    obtain ⟨j, hj, rfl⟩ := mem_at (d := ([] : List UInt8)) hs
    rw [h j hj, unp_z64]; rfl
  obtain ⟨a1, a2, a3⟩ := h1 l.length (Nat.le_refl _)
  unfold ofl
  rw [h2, a1, a2, a3]
theorem opn_blank {S : Dk.Dsk} (hS : Still S) (h : ∀ j, j < S.s.length → txa S j = z64) : opn S = ⟨[], [], [], 1, 0, false⟩ := by
  unfold opn
  rw [still_rds hS]
  refine blank_none fun j hj => ?_
  rw [range_len] at hj
  rw [map_getD _ hj]; exact h j hj
theorem gon_start {S : Dk.Dsk} (hO : Dk.Ok S) (hS : Still S) (h : ∀ j, j < S.s.length → txa S j = z64) : Gon S (opn S) := by
  rw [opn_blank hS h]
  refine ⟨hO, hS, rfl, ⟨by decide, by decide, by decide, by decide, by decide, rfl, by decide, ?_, ?_, ?_⟩, by show (0 : Int) ≤ _; omega, ?_, fun Q => by show scan ([] ++ Q) _ = _; rfl, fun j _ hj => h j hj⟩
  · intro x hx; cases hx
  · intro x hx; cases hx
  · intro x hx; cases hx
  · intro x hx; cases hx
theorem gon_end {S : Dk.Dsk} {J : JS} (h : Gon S J) : (opn S).nums = J.nums ∧ (opn S).tx = J.tx := by
  have he := h.en
  have e : (rds S).map unp = (pts S).take J.en.toNat ++ (pts S).drop J.en.toNat := by rw [still_pts h.still, List.take_append_drop]
  have hs : scan ((pts S).drop J.en.toNat) (J.nums, J.tx) = (J.nums, J.tx) := scan_blank fun x hx => by
    obtain ⟨j, hj, rfl⟩ := mem_at (d := p0) hx
    rw [List.length_drop, pts_len] at hj
    rw [List.getD_eq_getElem?_getD, List.getElem?_drop, ← List.getD_eq_getElem?_getD]
    unfold pts
    rw [map_getD _ (by omega), h.bl _ (by omega) (by omega), unp_z64]; rfl
  unfold opn ofl
  dsimp only
  rw [e, h.sc, hs]
  exact ⟨rfl, rfl⟩
theorem still_new {n : Nat} : Still (Dk.new n) := ⟨rfl, rfl, fun x hx => by rw [(List.mem_replicate.1 hx).2]⟩
theorem new_txa {n j : Nat} (h : j < n) : txa (Dk.new n) j = z64 := by
  unfold txa Dk.new
  rw [List.getD_eq_getElem?_getD, List.getElem?_replicate, if_pos h]; rfl
end Jn
end

section
/-! a journal on a disk without worn sectors is what Open finds; sectors that were written in part -/
namespace Jn
open Go Go.Fw
def rl (S : Dk.Dsk) : List (List UInt8) := (List.range S.s.length).map (txa S)
theorem rl_at {S : Dk.Dsk} {j : Nat} (h : j < S.s.length) : (rl S).getD j [] = txa S j := map_getD _ h _
theorem rl_len (S : Dk.Dsk) : (rl S).length = S.s.length := range_len _ _
theorem x_congr {l m : List (List UInt8)} : ∀ k, (∀ j, j < k → l.getD j [] = m.getD j []) → nxN l k = nxN m k ∧ enN l k = enN m k ∧ badN l k = badN m k
  | 0, _ => ⟨rfl, rfl, rfl⟩
  | k + 1, h => by
    obtain ⟨h1, h2, h3⟩ := x_congr k fun j hj => h j (by omega)
    have hk := h k (by omega)
    refine ⟨by rw [nxN, nxN, h1, hk], by rw [enN, enN, h2, hk], by rw [badN, badN, h3, hk]⟩
theorem x_rec {l : List (List UInt8)} {a : Nat} {n : Int} {t : List UInt8} (hn : 1 ≤ n ∧ n ≤ 4096) (ht : t.length ≤ 8000) : ∀ k, k ≤ (cnt t.length).toNat → (∀ i, i < k → l.getD (a + i) [] = sec n t i) →
    nxN l (a + k) = (if k = 0 then nxN l a else max (nxN l a) (n + 1)) ∧ enN l (a + k) = (if k = 0 then enN l a else (a : Int) + k) ∧ badN l (a + k) = badN l a
  | 0, _, _ => ⟨rfl, rfl, rfl⟩
  | k + 1, hk, h => by
    obtain ⟨h1, h2, h3⟩ := x_rec hn ht k (by omega) fun i hi => h i (by omega)
    have hs := h k (by omega)
    have hu := unp_sec hn ht (k := k) (by omega)
    have hz : sec n t k ≠ z64 := blank_bad (by rw [hu])
    refine ⟨?_, ?_, ?_⟩
    · rw [← Nat.add_assoc, nxN, h1, hs, hu, if_neg (Nat.succ_ne_zero k)]
      dsimp only
      split <;> omega
    · rw [← Nat.add_assoc, enN, hs, if_neg hz, if_neg (Nat.succ_ne_zero k)]; omega
    · rw [← Nat.add_assoc, badN, hs, hu, if_neg (fun e => by cases e.1), h3]
theorem x_blank {l : List (List UInt8)} {a : Nat} : ∀ k, (∀ i, i < k → l.getD (a + i) [] = z64) → nxN l (a + k) = nxN l a ∧ enN l (a + k) = enN l a ∧ badN l (a + k) = badN l a
  | 0, _ => ⟨rfl, rfl, rfl⟩
  | k + 1, h => by
    obtain ⟨h1, h2, h3⟩ := x_blank k fun i hi => h i (by omega)
    have hs := h k (by omega)
    have hr := nx_rng l a
    refine ⟨by rw [← Nat.add_assoc, nxN, h1, hs, unp_z64]; show max _ (0 + 1) = _; omega, by rw [← Nat.add_assoc, enN, if_pos hs, h2], by rw [← Nat.add_assoc, badN, if_neg (fun e => e.2 hs), h3]⟩
structure Fil (S : Dk.Dsk) (J : JS) : Prop where
  g : Gon S J
  wn : ∀ x ∈ S.s, x.wn = false
  bad : J.bad = []
  sum : nxN (rl S) J.en.toNat = J.next ∧ enN (rl S) J.en.toNat = J.en ∧ badN (rl S) J.en.toNat = []
  nums : J.nums = (List.range J.tx.length).map fun (i : Nat) => (i : Int) + 1
  next : J.next = J.tx.length + 1
theorem fil_opn {S : Dk.Dsk} {J : JS} (h : Fil S J) : opn S = J := by
  obtain ⟨h1, h2⟩ := gon_end h.g
  have he := h.g.en
  have he0 := h.g.wf.e1
  obtain ⟨a1, a2, a3⟩ := h.sum
  obtain ⟨b1, b2, b3⟩ := x_blank (l := rl S) (a := J.en.toNat) (S.s.length - J.en.toNat) fun i hi => by rw [rl_at (by omega)]; exact h.g.bl _ (by omega) (by omega)
  have e : J.en.toNat + (S.s.length - J.en.toNat) = S.s.length := by omega
  rw [e] at b1 b2 b3
  have er : rds S = rl S := still_rds h.g.still
  have c := h.g.cl
  have hb := h.bad
  unfold opn ofl at h1 h2 ⊢
  dsimp only at h1 h2
  rw [er] at h1 h2 ⊢
  rw [h1, h2, rl_len, b1, b2, b3, a1, a2, a3]
  cases J
  simp_all
theorem fil_new {n : Nat} (h1 : 1 ≤ n) (h2 : n ≤ 4096) : Fil (Dk.new n) (opn (Dk.new n)) := by
  have hl : (Dk.new n).s.length = n := Dk.new_len n
  have hb : ∀ j, j < (Dk.new n).s.length → txa (Dk.new n) j = z64 := fun j hj => new_txa (by omega)
  have hg := gon_start (Dk.ok_new h1 h2) still_new hb
  rw [opn_blank still_new hb] at hg ⊢
  exact ⟨hg, fun x hx => by rw [(List.mem_replicate.1 hx).2], rfl, ⟨rfl, rfl, rfl⟩, rfl, rfl⟩
theorem fil_app {S : Dk.Dsk} {J : JS} (h : Fil S J) {t : List UInt8} (ht : t.length ≤ 8000) (hn : J.next ≤ 4096) (hr : ¬ room J S < cnt t.length) :
    ∃ F, Fil F (J3 J t) ∧ wfr S J.en (secs J.next t) = (F, 0, true) ∧ F.s.length = S.s.length := by
  obtain ⟨F, b, hG, hw, hlen, hat, hb⟩ := gon_app h.g ht hn hr
  have hn1 := h.g.wf.n1
  have he1 := h.g.wf.e1
  have hc0 := cnt_rng t.length
  have hc1 := cnt_1le ht
  have hsl := secs_len J.next t
  have hR := hr
  unfold room at hR
  have hall : ∀ i, i < (cnt t.length).toNat → txa F (J.en.toNat + i) = sec J.next t i := fun i hi => by
    have hwn : (S.s.getD (J.en.toNat + i) Dk.s0).wn = false := h.wn _ (Dk.getD_mem (by omega))
    unfold txa
    rw [hat _ (by omega), wdone_in (by omega), hwn, if_neg (by simp), secs_at _ _ hi]
  have hbt := hb.2 hall
  subst hbt
  rw [if_pos rfl] at hG
  refine ⟨F, ⟨hG, fun x hx => ?_, h.bad, ?_, ?_, ?_⟩, hw, hlen⟩
  · obtain ⟨j, hj, rfl⟩ := mem_at (d := Dk.s0) hx
    rw [hat j (by omega)]
    unfold wdone
    have hq : (S.s.getD j Dk.s0).wn = false := h.wn _ (Dk.getD_mem (by omega))
    split
    · exact hq
    · exact hq
  · obtain ⟨a1, a2, a3⟩ := h.sum
    obtain ⟨c1, c2, c3⟩ := x_congr (l := rl F) (m := rl S) J.en.toNat fun j hj => by
      rw [rl_at (by omega), rl_at (by omega)]; unfold txa; rw [hat j (by omega), wdone_lo hj]
    obtain ⟨d1, d2, d3⟩ := x_rec (l := rl F) (a := J.en.toNat) ⟨hn1, hn⟩ ht (cnt t.length).toNat (Nat.le_refl _) fun i hi => by rw [rl_at (by omega)]; exact hall i hi
    have hen : (J.en + ((secs J.next t).length : Int)).toNat = J.en.toNat + (cnt t.length).toNat := by omega
    have e1 : (J3 J t).en = J.en + ((secs J.next t).length : Int) := rfl
    have e2 : (J3 J t).next = J.next + 1 := rfl
    rw [e1, e2, hen, d1, d2, d3, c1, c3, a1, a3, if_neg (by omega), if_neg (by omega)]
    exact ⟨by omega, by omega, rfl⟩
  · show J.nums ++ [J.next] = (List.range (J.tx ++ [t]).length).map fun (i : Nat) => (i : Int) + 1
    rw [List.length_append, List.length_singleton, List.range_succ, List.map_append, h.nums, h.next]; rfl
  · show J.next + 1 = ((J.tx ++ [t]).length : Int) + 1
    rw [List.length_append, List.length_singleton, h.next]; omega
end Jn
end

section
/-! a power failure while a record is appended -/
namespace Jn
open Go Go.Fw
def tear (x : List UInt8) (p : Nat) : List UInt8 := x.take p ++ z64.drop p
/-- What stands on the disk behind a failure and Mount. -/
structure Torn (S M : Dk.Dsk) (a : Nat) (l : List (List UInt8)) (p : Nat → Nat) : Prop where
  ok : Dk.Ok M
  still : Still M
  len : M.s.length = S.s.length
  out : ∀ j, j < S.s.length → (j < a ∨ a + l.length ≤ j) → txa M j = txa S j
  ins : ∀ i, i < l.length → txa M (a + i) = tear (l.getD i []) (p i)
  p64 : ∀ i, p i ≤ 64
end Jn
end

section
/-! a sector that was written in part is not good, unless it is whole; what Open finds behind a failure -/
namespace Jn
open Go Go.Fw
/-- A good sector is one of the records with some texts. -/
def gen1 (T : List (List UInt8)) (s : List UInt8) : Prop :=
  (unp s).ok = true → (unp s).n ≤ T.length ∧ (pack (unp s).n (T.getD ((unp s).n - 1).toNat [])).2 = 0 ∧ (unp s).p < (pack (unp s).n (T.getD ((unp s).n - 1).toNat [])).1.length ∧ (pack (unp s).n (T.getD ((unp s).n - 1).toNat [])).1.getD (unp s).p.toNat [] = s
theorem ok_good {s : List UInt8} (h : (unp s).ok = true) : good s := by
  by_cases hg : good s
  · exact hg
  · rw [unp_bad hg] at h; cases h
theorem gen_sec {T : List (List UInt8)} {s : List UInt8} (h : gen1 T s) (ho : (unp s).ok = true) :
    (T.getD ((num s : Int) - 1).toNat []).length ≤ 8000 ∧ par s < (cnt (T.getD ((num s : Int) - 1).toNat []).length).toNat ∧ sec (num s) (T.getD ((num s : Int) - 1).toNat []) (par s) = s := by
  have hg := ok_good ho
  have hx := h ho
  rw [unp_good hg] at hx
  dsimp only at hx
  obtain ⟨_, h2, h3, h4⟩ := hx
  have hn : (1 : Int) ≤ (num s : Int) ∧ (num s : Int) ≤ 4096 := by have := hg.2.2.1; have := hg.2.2.2.1; omega
  have ht : (T.getD ((num s : Int) - 1).toNat []).length ≤ 8000 := by
    by_cases hc : 8000 < (T.getD ((num s : Int) - 1).toNat []).length
    · rw [pack_2 hn hc] at h2; cases h2
    · omega
  rw [pack_3 hn ht] at h3 h4
  dsimp only at h3 h4
  rw [secs_len] at h3
  have hp : par s < (cnt (T.getD ((num s : Int) - 1).toNat []).length).toNat := by omega
  rw [Int.toNat_natCast, secs_at _ _ hp] at h4
  exact ⟨ht, hp, h4⟩
theorem lb4 {n : Nat} (h : n < 256) : lb n 4 = [UInt8.ofNat n, 0, 0, 0] := by
  have e : n / 256 = 0 := by omega
  rw [lb_cons, e]; rfl
theorem lb2 {n : Nat} (h : n < 256) : lb n 2 = [UInt8.ofNat n, 0] := by
  have e : n / 256 = 0 := by omega
  rw [lb_cons, e]; rfl
end Jn
namespace Jn
end Jn
end

section
/-! the reference's Open: the inner loop, step by step -/
namespace Jn
open Go Go.Fw
def wh (PS : List Part) (m i : Nat) : Bool := w0B (PS.drop m) && mts (f0 (PS.drop m)) 0 ((PS.drop m).take i)
def tx9 (PS : List Part) (m i : Nat) : List UInt8 := txs ((PS.drop m).take i)
end Jn
end

section
/-! the journal of the examples: its sectors, evaluated -/
namespace Jn
open Go Go.Fw
def xA : List UInt8 := [1, 0, 0, 0, 0, 0, 1, 0, 97, 0, 0, 0, 0, 0, 0, 0, 0, 0, 0, 0, 0, 0, 0, 0, 0, 0, 0, 0, 0, 0, 0, 0, 0, 0, 0, 0, 0, 0, 0, 0, 0, 0, 0, 0, 0, 0, 0, 0, 0, 0, 0, 0, 0, 0, 0, 0, 84, 154, 118, 26, 131, 73, 143, 214]
def xB : List UInt8 := [2, 0, 0, 0, 0, 0, 50, 0, 120, 120, 120, 120, 120, 120, 120, 120, 120, 120, 120, 120, 120, 120, 120, 120, 120, 120, 120, 120, 120, 120, 120, 120, 120, 120, 120, 120, 120, 120, 120, 120, 120, 120, 120, 120, 120, 120, 120, 120, 120, 120, 120, 120, 120, 120, 120, 120, 172, 130, 184, 27, 18, 198, 7, 61]
def xC : List UInt8 := [2, 0, 0, 0, 1, 0, 2, 0, 120, 120, 0, 0, 0, 0, 0, 0, 0, 0, 0, 0, 0, 0, 0, 0, 0, 0, 0, 0, 0, 0, 0, 0, 0, 0, 0, 0, 0, 0, 0, 0, 0, 0, 0, 0, 0, 0, 0, 0, 0, 0, 0, 0, 0, 0, 0, 0, 208, 101, 239, 173, 36, 191, 246, 241]
def xD : List UInt8 := [3, 0, 0, 0, 0, 0, 1, 0, 98, 0, 0, 0, 0, 0, 0, 0, 0, 0, 0, 0, 0, 0, 0, 0, 0, 0, 0, 0, 0, 0, 0, 0, 0, 0, 0, 0, 0, 0, 0, 0, 0, 0, 0, 0, 0, 0, 0, 0, 0, 0, 0, 0, 0, 0, 0, 0, 57, 239, 201, 0, 98, 120, 49, 119]
def xF : List UInt8 := [2, 0, 0, 0, 0, 0, 50, 0, 56, 120, 120, 120, 120, 120, 120, 120, 120, 120, 120, 120, 120, 120, 120, 120, 120, 120, 120, 120, 120, 120, 120, 120, 120, 120, 120, 120, 120, 120, 120, 120, 120, 120, 120, 120, 120, 120, 120, 120, 120, 120, 120, 120, 120, 120, 120, 120, 172, 130, 184, 27, 18, 198, 7, 61]
def x50 : List UInt8 := List.replicate 50 120
theorem sA' : sec 1 [97] 0 = xA := by decide +kernel
theorem sB' : sec 2 x50 0 = xB := by decide +kernel
theorem sC' : sec 2 x50 1 = xC := by decide +kernel
theorem sD' : sec 3 [98] 0 = xD := by decide +kernel
theorem uF : unp xF = p0 := unp_bad (by decide +kernel)
end Jn
end

section
/-! the examples, step by step -/
namespace Jn
open Go Go.Fw
def msec (x : List UInt8) : Dk.Sec := ⟨x, [], false, false⟩
def xq0 : Dk.Dsk := Dk.new 4
def xq1 : Dk.Dsk := ⟨[msec xA, msec z64, msec z64, msec z64], false, -1⟩
def xq2 : Dk.Dsk := ⟨[msec xA, msec xB, msec xC, msec z64], false, -1⟩
def xq3 : Dk.Dsk := ⟨[msec xA, msec xF, msec xC, msec z64], false, -1⟩
def xq4 : Dk.Dsk := ⟨[msec xA, msec xF, msec xC, msec xD], false, -1⟩
def xJ0 : JS := ⟨[], [], [], 1, 0, false⟩
def xJ1 : JS := ⟨[1], [[97]], [], 2, 1, false⟩
def xJ2 : JS := ⟨[1, 2], [[97], x50], [], 3, 3, false⟩
def xK0 : JS := ⟨[1], [[97]], [1], 3, 3, false⟩
def xK1 : JS := ⟨[1, 3], [[97], [98]], [1], 4, 4, false⟩
theorem app_good {J : JS} {S F : Dk.Dsk} {t : List UInt8} {l : List (List UInt8)} (hc : J.cl = false) (ht : t.length ≤ 8000) (hn : J.next ≤ 4096) (hr : ¬ room J S < cnt t.length) (hs : secs J.next t = l) (hw : wfr S J.en l = (F, 0, true)) :
    app J S t = (⟨J.nums ++ [J.next], J.tx ++ [t], J.bad, J.next + 1, J.en + l.length, J.cl⟩, F, J.next, 0) := by
  rw [app_6 (by rw [hc]; simp) ⟨ht, hn⟩ hr (by rw [hs, hw]) (by rw [hs, hw]; simp), hs, hw]
  unfold J3
  rw [hs]
theorem k1 : secs 1 [97] = [xA] := by rw [← sA']; rfl
theorem k2 : secs 2 x50 = [xB, xC] := by rw [← sB', ← sC']; rfl
theorem k3 : secs 3 [98] = [xD] := by rw [← sD']; rfl
theorem w1 : wfr xq0 0 [xA] = (xq1, 0, true) := by kernel_rfl
theorem w2 : wfr xq1 1 [xB, xC] = (xq2, 0, true) := by kernel_rfl
theorem w3 : wfr xq3 3 [xD] = (xq4, 0, true) := by kernel_rfl
theorem o0 : opn xq0 = xJ0 := opn_blank still_new fun j hj => new_txa (by rw [show xq0.s.length = 4 from rfl] at hj; exact hj)
theorem a1 : app xJ0 xq0 [97] = (xJ1, xq1, 1, 0) := app_good (l := [xA]) rfl (by decide) (by decide) (by decide) k1 w1
theorem a2 : app xJ1 xq1 x50 = (xJ2, xq2, 2, 0) := app_good (l := [xB, xC]) rfl (by decide) (by decide) (by decide) k2 w2
theorem a3 : app xK0 xq3 [98] = (xK1, xq4, 3, 0) := app_good (l := [xD]) rfl (by decide) (by decide) (by decide) k3 w3
theorem a4 : app xK1 xq4 [99] = (xK1, xq4, 0, 22) := app_3 (by decide) (by decide) (by decide)
theorem rot3 : Dk.rot xq2 1 70 = (xq3, 0) := by kernel_rfl
theorem uA : unp xA = ⟨1, 0, 1, [97], true⟩ := by
  have := unp_sec (n := 1) (by decide) (t := [97]) (by decide) (k := 0) (by decide)
  rw [sA'] at this
  rw [this]; rfl
theorem uC : unp xC = ⟨2, 1, 2, [120, 120], true⟩ := by
  have := unp_sec (n := 2) (by decide) (t := x50) (by decide) (k := 1) (by decide)
  rw [sC'] at this
  rw [this]; rfl
theorem r3 : rds xq3 = [xA, xF, xC, z64] := by kernel_rfl
theorem o3 : opn xq3 = xK0 := by
  unfold opn
  rw [r3]
  have hb1 : badN [xA, xF, xC, z64] 1 = [] := bad_f (by show ¬ ((unp xA).ok = false ∧ xA ≠ z64); rw [uA]; simp)
  have hb2 : badN [xA, xF, xC, z64] 2 = [1] := by rw [bad_t (by show (unp xF).ok = false ∧ xF ≠ z64; rw [uF]; exact ⟨rfl, by decide⟩), hb1]; rfl
  have hb3 : badN [xA, xF, xC, z64] 3 = [1] := by rw [bad_f (by show ¬ ((unp xC).ok = false ∧ xC ≠ z64); rw [uC]; simp), hb2]
  have hb4 : badN [xA, xF, xC, z64] 4 = [1] := by rw [bad_f (by show ¬ ((unp z64).ok = false ∧ z64 ≠ z64); simp), hb3]
  have hn1 : nxN [xA, xF, xC, z64] 1 = 2 := by show max 1 ((unp xA).n + 1) = 2; rw [uA]; rfl
  have hn2 : nxN [xA, xF, xC, z64] 2 = 2 := by rw [nx_s, hn1]; show max 2 ((unp xF).n + 1) = 2; rw [uF]; rfl
  have hn3 : nxN [xA, xF, xC, z64] 3 = 3 := by rw [nx_s, hn2]; show max 2 ((unp xC).n + 1) = 3; rw [uC]; rfl
  have hn4 : nxN [xA, xF, xC, z64] 4 = 3 := by rw [nx_s, hn3]; show max 3 ((unp z64).n + 1) = 3; rw [unp_z64]; rfl
  have he4 : enN [xA, xF, xC, z64] 4 = 3 := by
    rw [en_t (by rfl), en_f (by show xC ≠ z64; exact blank_bad (by rw [uC]))]; rfl
  have hp : [xA, xF, xC, z64].map unp = [⟨1, 0, 1, [97], true⟩, p0, ⟨2, 1, 2, [120, 120], true⟩, p0] := by
    rw [List.map_cons, List.map_cons, List.map_cons, List.map_cons, List.map_nil, uA, uF, uC, unp_z64]
  have hs : scan [⟨1, 0, 1, [97], true⟩, p0, ⟨2, 1, 2, [120, 120], true⟩, p0] ([], []) = ([1], [[97]]) := by kernel_rfl
  unfold ofl
  rw [hp, hs, show [xA, xF, xC, z64].length = 4 from rfl, hb4, hn4, he4]; rfl
theorem pk1 : pack 1 [97] = ([xA], 0) := by rw [pack_3 (by decide) (by decide), k1]
theorem dm1 : damaged xK1 = [2] := by decide
theorem c49 : cnt 49 = 2 := by decide
end Jn
namespace Jn
theorem pack_len (n : Int) (t : List UInt8) : (pack n t).1.length ≤ 167 := by
  unfold pack
  split
  · exact Nat.zero_le _
  · split
    · exact Nat.zero_le _
    · show (secs n t).length ≤ 167
      have := cnt_rng t.length
      rw [secs_len]; omega
end Jn
end
