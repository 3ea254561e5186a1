/- A text of a proof over this seat: walks over the program's functions and the plain laws that they need. -/
import Derived.Test.YtibbhobfdbfkkaaGreatDoorShW
import Derived.Test.YtibbhobfdbfkkaaGreatDoorFwD
set_option linter.all false
section
/- Signatures made of hashes, in plain words. -/
namespace Go.Fw
namespace Si
/-- One step of a chain. -/
def stp (i c t : Int) (v : List UInt8) : List UInt8 := Sha.ofD 1 [Wi.ints [i, c, t], v]
/-- The value of a chain n heights above. -/
def adv (i c a : Int) (v : List UInt8) : Nat → List UInt8
  | 0 => v
  | n + 1 => stp i c (a + (n : Int)) (adv i c a v n)
def advT (i c a b : Int) (v : List UInt8) : List UInt8 := adv i c a v (b - a).toNat
def chn : List UInt8 := [99, 104, 97, 105, 110]
def start (seed : List UInt8) (i c : Int) : List UInt8 := (Sha.mac seed (chn ++ Wi.ints [i, c])).take 16
def leafD (s : List UInt8) : List UInt8 := Sha.ofD 3 [Sha.ofD 2 [s]]
def nodeD (a b : List UInt8) : List UInt8 := Sha.ofD 4 [a, b]
def cat (f : Int → List UInt8) : Nat → List UInt8
  | 0 => []
  | n + 1 => cat f n ++ f (n : Int)
def leaf (seed : List UInt8) (k : Int) : List UInt8 := leafD (cat (fun c => advT k c 0 3 (start seed k c)) 68)
def tree (seed : List UInt8) : Nat → Int → List UInt8
  | 0, k => leaf seed k
  | l + 1, k => nodeD (tree seed l (2 * k)) (tree seed l (2 * k + 1))
theorem leaf_16 (seed : List UInt8) (k : Int) : (leaf seed k).length = 16 := Sha.ofD_len _ _
theorem node_16 (a b : List UInt8) : (nodeD a b).length = 16 := Sha.ofD_len _ _
theorem tree_16 (seed : List UInt8) : ∀ l k, (tree seed l k).length = 16
  | 0, k => leaf_16 _ _
  | l + 1, k => node_16 _ _
end Si
end Go.Fw
end

section
namespace Go.Fw
namespace Si
/-- The digits of a digest. -/
def dg (d : List UInt8) (i : Nat) : Int := (((d.getD (i / 4) 0).toNat / 4 ^ (3 - i % 4) % 4 : Nat) : Int)
def dgs (d : List UInt8) (n : Nat) : List Int := (List.range n).map (dg d)
def sm (d : List UInt8) : Nat → Int
  | 0 => 0
  | n + 1 => sm d n + (3 - dg d n)
def digs (d : List UInt8) : List Int := dgs d 64 ++ [sm d 64 / 64, sm d 64 / 16 % 4, sm d 64 / 4 % 4, sm d 64 % 4]
theorem dgs_len (d : List UInt8) (n : Nat) : (dgs d n).length = n := by simp [dgs]
theorem digs_len (d : List UInt8) : (digs d).length = 68 := by unfold digs; rw [List.length_append, dgs_len]; rfl
/-- What stands while the digits are made. -/
def dgW (d : List UInt8) (i : Nat) : List Int := dgs d i ++ List.replicate (68 - i) 0
/-- The digits of the sum, from the last one. -/
def ckW (s : Int) : Nat → List Int
  | 0 => [0, 0, 0, 0]
  | 1 => [0, 0, 0, s % 4]
  | 2 => [0, 0, s / 4 % 4, s % 4]
  | 3 => [0, s / 4 / 4 % 4, s / 4 % 4, s % 4]
  | _ => [s / 4 / 4 / 4 % 4, s / 4 / 4 % 4, s / 4 % 4, s % 4]
def dv4 (s : Int) : Nat → Int
  | 0 => s
  | n + 1 => dv4 s n / 4
/-- The four digits of a byte. -/
def l4 (d : List UInt8) (i : Nat) : List Int := [dg d (4 * i), dg d (4 * i + 1), dg d (4 * i + 2), dg d (4 * i + 3)]
end Si
end Go.Fw
end

section
/- Leaves and trees, and what is remembered of them. -/
namespace Go.Fw
namespace Si
/-- The top of a chain. -/
def top (seed : List UInt8) (k c : Int) : List UInt8 := advT k c 0 3 (start seed k c)
def dgv (l : List UInt8) : Value := .agg (l.map vb).toArray
/-- What is remembered is right. -/
def MOk (seed : List UInt8) (es : List MapEntry) : Prop :=
  ∃ ml : List (List Int × Value), MpR aiv ml es ∧ (∀ p ∈ ml, p.1.length = 2) ∧ ∀ (l : Nat) (k : Int) v, aget ml [(l : Int), k] = some v → v = dgv (tree seed l k)
theorem MOk.nil (seed : List UInt8) : MOk seed [] := ⟨[], rfl, fun _ h => (by cases h), fun l k v h => by cases h⟩
theorem fnd_len {α : Type} [DecidableEq α] {q : α → Prop} {a : α} {v : Value} : ∀ {l : List (α × Value)}, (∀ p ∈ l, q p.1) → q a → ∀ p ∈ aset a v l, q p.1
  | [], _, ha, p, hp => by
    rw [aset, List.mem_singleton] at hp
    subst hp; exact ha
  | x :: l, hl, ha, p, hp => by
    rw [aset] at hp
    split at hp
    · rcases List.mem_cons.1 hp with rfl | hp
      · exact ha
      · exact hl p (List.mem_cons_of_mem _ hp)
    · rcases List.mem_cons.1 hp with rfl | hp
      · exact hl _ List.mem_cons_self
      · exact fnd_len (fun p hp => hl p (List.mem_cons_of_mem _ hp)) ha p hp
theorem MOk.set {seed : List UInt8} {ml : List (List Int × Value)} {es : List MapEntry} {l : Nat} {k : Int} {v : Value} (h : MpR aiv (aset [(l : Int), k] v ml) es) (hl : ∀ p ∈ ml, p.1.length = 2) (hm : ∀ (l : Nat) (k : Int) v, aget ml [(l : Int), k] = some v → v = dgv (tree seed l k)) (hv : v = dgv (tree seed l k)) : MOk seed es := by
  refine ⟨_, h, fnd_len (q := fun x : List Int => x.length = 2) hl rfl, fun l' k' v' h' => ?_⟩
  rw [aget_aset] at h'
  split at h'
  · rename_i he
    simp only [List.cons.injEq, Int.natCast_inj, and_true] at he
    obtain ⟨rfl, rfl⟩ := he
    simp only [Option.some.injEq] at h'
    rw [← h', hv]
  · exact hm l' k' v' h'
/-- How far the numbers of a tree go. -/
def Kb (l : Nat) (k : Int) : Prop := 0 ≤ k ∧ (k + 1) * 2 ^ l ≤ 1048576
theorem Kb.rng {l : Nat} {k : Int} (h : Kb l k) : 0 ≤ k ∧ k < 1048576 := by
  refine ⟨h.1, ?_⟩
  have h1 : (1 : Int) ≤ 2 ^ l := by exact_mod_cast Nat.one_le_two_pow
  have h2 : (k + 1) * 1 ≤ (k + 1) * 2 ^ l := Int.mul_le_mul_of_nonneg_left h1 (by have := h.1; omega)
  have := h.2
  omega
theorem Kb.l {l : Nat} {k : Int} (h : Kb (l + 1) k) : Kb l (2 * k) := by
  refine ⟨by have := h.1; omega, ?_⟩
  have h2 := h.2
  rw [Int.pow_succ, Int.mul_comm _ 2, ← Int.mul_assoc] at h2
  have h1 : (0 : Int) ≤ 2 ^ l := by exact_mod_cast Nat.zero_le _
  have : (2 * k + 1) * 2 ^ l ≤ (k + 1) * 2 * 2 ^ l := Int.mul_le_mul_of_nonneg_right (by omega) h1
  omega
theorem Kb.r {l : Nat} {k : Int} (h : Kb (l + 1) k) : Kb l (2 * k + 1) := by
  refine ⟨by have := h.1; omega, ?_⟩
  have h2 := h.2
  rw [Int.pow_succ, Int.mul_comm _ 2, ← Int.mul_assoc] at h2
  rw [show 2 * k + 1 + 1 = (k + 1) * 2 by omega]
  exact h2
theorem look {seed : List UInt8} {ml : List (List Int × Value)} {l : Nat} {k : Int} {ze : Value} (hz : ze = dgv (List.replicate 16 0)) (hm : ∀ (l : Nat) (k : Int) v, aget ml [(l : Int), k] = some v → v = dgv (tree seed l k)) :
    ∃ (vv : List UInt8) (ok : Bool), vv.length = 16 ∧ (aget ml [(l : Int), k]).getD ze = .agg (vv.map vb).toArray ∧ (aget ml [(l : Int), k]).isSome = ok ∧ (ok = true → vv = tree seed l k) := by
  cases h : aget ml [(l : Int), k] with
  | none => exact ⟨List.replicate 16 0, false, rfl, hz, rfl, fun h => by cases h⟩
  | some v => exact ⟨tree seed l k, true, tree_16 _ _ _, hm l k v h, rfl, fun _ => rfl⟩
end Si
end Go.Fw
end

section
/- The numbers of a tree, the public key, what is signed. -/
namespace Go.Fw
namespace Si
theorem Kb.root {l : Nat} (h : l ≤ 6) : Kb l 0 := by
  refine ⟨Int.le_refl 0, ?_⟩
  have : (2 : Nat) ^ l ≤ 2 ^ 6 := Nat.pow_le_pow_right (by decide) h
  have h2 : ((2 : Int) ^ l) ≤ 64 := by exact_mod_cast this
  rw [Int.zero_add, Int.one_mul]; omega
def okH (s : List UInt8) (h : Int) : Prop := ((s.length : Int) = 32 ∧ 0 ≤ h) ∧ h ≤ 6
instance (s : List UInt8) (h : Int) : Decidable (okH s h) := by unfold okH; infer_instance
/-- The public key. -/
def pub (s : List UInt8) (h : Int) : List UInt8 := if okH s h then tree s h.toNat 0 else List.replicate 16 0
def pubE (s : List UInt8) (h : Int) : Int := if okH s h then 0 else 1
/-- What is signed. -/
def dig (p : List UInt8) (i : Int) (m : List UInt8) : List UInt8 := Sha.ofD 5 [p, Wi.int i, m]
/-- The first n nodes of a level. -/
def lev (s : List UInt8) (l n : Nat) : List (List UInt8) := (List.range n).map fun (k : Nat) => tree s l (k : Int)
/-- The levels of a tree of height h, the first n. -/
def levs (s : List UInt8) (h n : Nat) : List (List (List UInt8)) := (List.range n).map fun l => lev s l (2 ^ (h - l))
theorem p2_succ {h l : Nat} (hl : l < h) : 2 ^ (h - l) = 2 * 2 ^ (h - (l + 1)) := by
  rw [show h - l = (h - (l + 1)) + 1 by omega, Nat.pow_succ, Nat.mul_comm]
theorem p2_le {h l : Nat} (hh : h ≤ 6) : 2 ^ (h - l) ≤ 64 := by
  have : (2 : Nat) ^ (h - l) ≤ 2 ^ 6 := Nat.pow_le_pow_right (by decide) (by omega)
  omega
theorem p2_pos {h : Nat} : 0 < 2 ^ h := Nat.pow_pos (by decide)
theorem pw {h : Int} (hh : h ≤ 63) : (1 : Int) * 2 ^ (min h.toNat 64) = ((2 ^ h.toNat : Nat) : Int) := by
  rw [Nat.min_eq_left (by omega), Int.one_mul]; simp
end Si
end Go.Fw
end

section
/- A signature, in plain words. -/
namespace Go.Fw
namespace Si
/-- The other child of a parent. -/
def sib (j : Int) : Int := if j % 2 = 1 then j - 1 else j + 1
theorem sib_lt {j : Int} {b : Nat} (h0 : 0 ≤ j) (h1 : j < 2 * (b : Int)) : 0 ≤ sib j ∧ sib j < 2 * (b : Int) := by unfold sib; split <;> omega
theorem p2_add {h l : Nat} (hl : l ≤ h) : 2 ^ h = 2 ^ (h - l) * 2 ^ l := by rw [← Nat.pow_add]; congr 1; omega
theorem div_lt {i : Int} {h l : Nat} (hl : l ≤ h) (h0 : 0 ≤ i) (h1 : i < ((2 ^ h : Nat) : Int)) : 0 ≤ i / 2 ^ l ∧ i / 2 ^ l < ((2 ^ (h - l) : Nat) : Int) := by
  have hp : (0 : Int) < 2 ^ l := by exact_mod_cast (p2_pos (h := l))
  refine ⟨Int.ediv_nonneg h0 (Int.le_of_lt hp), Int.ediv_lt_of_lt_mul hp ?_⟩
  have e : (((2 ^ (h - l) : Nat) : Int)) * 2 ^ l = ((2 ^ h : Nat) : Int) := by rw [p2_add hl]; simp
  rw [e]; exact h1
theorem sib_rng {i : Int} {h l : Nat} (hl : l < h) (h0 : 0 ≤ i) (h1 : i < ((2 ^ h : Nat) : Int)) : 0 ≤ sib (i / 2 ^ l) ∧ sib (i / 2 ^ l) < ((2 ^ (h - l) : Nat) : Int) := by
  have h2 := div_lt (Nat.le_of_lt hl) h0 h1
  rw [p2_succ hl] at h2 ⊢
  have := sib_lt (b := 2 ^ (h - (l + 1))) h2.1 (by have := h2.2; rw [Int.natCast_mul] at this; exact this)
  rw [Int.natCast_mul]; exact this
theorem Kb.of {h l : Nat} {k : Int} (hh : h ≤ 6) (hl : l ≤ h) (h0 : 0 ≤ k) (h1 : k < ((2 ^ (h - l) : Nat) : Int)) : Kb l k := by
  refine ⟨h0, ?_⟩
  have hp : (0 : Int) ≤ 2 ^ l := Int.pow_nonneg (by omega)
  have e : (((2 ^ (h - l) : Nat) : Int)) * 2 ^ l = ((2 ^ h : Nat) : Int) := by rw [p2_add hl]; simp
  have h2 : (k + 1) * 2 ^ l ≤ (((2 ^ (h - l) : Nat) : Int)) * 2 ^ l := Int.mul_le_mul_of_nonneg_right (by omega) hp
  have h3 := p2_le (h := h) (l := 0) hh
  rw [Nat.sub_zero] at h3
  rw [e] at h2
  have h4 : ((2 ^ h : Nat) : Int) ≤ 64 := by exact_mod_cast h3
  omega
theorem Kb.sib {h l : Nat} {i : Int} (hh : h ≤ 6) (hl : l < h) (h0 : 0 ≤ i) (h1 : i < ((2 ^ h : Nat) : Int)) : Kb l (sib (i / 2 ^ l)) :=
  Kb.of hh (Nat.le_of_lt hl) (sib_rng hl h0 h1).1 (sib_rng hl h0 h1).2
/-- What stands for a chain in a signature. -/
def ch (s : List UInt8) (i : Int) (d : List Int) (c : Int) : List UInt8 := advT i c 0 (d.getD c.toNat 0) (start s i c)
/-- The neighbour at a level. -/
def nb (s : List UInt8) (i l : Int) : List UInt8 := tree s l.toNat (sib (i / 2 ^ l.toNat))
def sgD (s : List UInt8) (h i : Int) (m : List UInt8) : List Int := digs (dig (tree s h.toNat 0) i m)
def sgA (s : List UInt8) (h i : Int) (m : List UInt8) : List UInt8 := Wi.int i ++ cat (ch s i (sgD s h i m)) 68 ++ cat (nb s i) h.toNat
def okI (h i : Int) : Prop := 0 ≤ i ∧ i < ((2 ^ h.toNat : Nat) : Int)
instance (h i : Int) : Decidable (okI h i) := by unfold okI; infer_instance
def sigS (s : List UInt8) (h i : Int) (m : List UInt8) : List UInt8 := if okH s h then if okI h i then sgA s h i m else [] else []
def sigE (s : List UInt8) (h i : Int) : Int := if okH s h then if okI h i then 0 else 20 else 1
end Si
end Go.Fw
end

section
/- What is made of a signature, in plain words. -/
namespace Go.Fw
namespace Si
/-- The k-th value of what follows the index. -/
def vl (r : List UInt8) (k : Int) : List UInt8 := (r.drop (16 * k).toNat).take 16
def pd (v : List UInt8) : List UInt8 := (v ++ List.replicate 16 0).take 16
/-- A chain's top. -/
def vT (i : Int) (d : List Int) (r : List UInt8) (c : Int) : List UInt8 := advT i c (d.getD c.toNat 0) 3 (pd (vl r c))
/-- The node at a level. -/
def vv (i : Int) (d : List Int) (r : List UInt8) : Nat → List UInt8
  | 0 => leafD (cat (vT i d r) 68)
  | l + 1 => if i / 2 ^ l % 2 = 1 then nodeD (vl r (68 + (l : Int))) (vv i d r l) else nodeD (vv i d r l) (vl r (68 + (l : Int)))
def rst (x : List UInt8) : List UInt8 := x.drop (Wi.getInt x).2.1.toNat
/-- What Verify says: the index and the error. -/
def okF (h : Int) (x : List UInt8) : Prop := okI h (Wi.getInt x).1 ∧ ((rst x).length : Int) = (68 + h) * 16
instance (h : Int) (x : List UInt8) : Decidable (okF h x) := by unfold okF; infer_instance
def root (p : List UInt8) (h : Int) (m x : List UInt8) : List UInt8 := vv (Wi.getInt x).1 (digs (dig p (Wi.getInt x).1 m)) (rst x) h.toNat
def ver (p : List UInt8) (h : Int) (m x : List UInt8) : Int × Int :=
  if 0 ≤ h ∧ h ≤ 6 then
    if (Wi.getInt x).2.2 = 0 then
      if okF h x then
        if root p h m x = p then ((Wi.getInt x).1, 0) else (0, 19)
      else (0, 2)
    else (0, (Wi.getInt x).2.2)
  else (0, 1)
end Si
end Go.Fw
end
