/- A text of a proof over this seat: walks over the program's functions and the plain laws that they need. -/
import Derived.Test.YtlopocmpcmkdkaaDoorShW
import Derived.Test.YtlopocmpcmkdkaaDoorFwD
set_option linter.all false
section
/- Signatures made of hashes, in plain words. -/
namespace Go.Fw
namespace Si
/-- One step of a chain. -/
def stp (i c t : Int) (v : List UInt8) : List UInt8 := Sha.ofD 1 [Wi.ints [i, c, t], v]
/-- The value of a chain n heights above. -/
def adv (i c a : Int) (v : List UInt8) : Nat → List UInt8
  | 0 => v
  | n + 1 => stp i c (a + (n : Int)) (adv i c a v n)
def advT (i c a b : Int) (v : List UInt8) : List UInt8 := adv i c a v (b - a).toNat
def chn : List UInt8 := [99, 104, 97, 105, 110]
def start (seed : List UInt8) (i c : Int) : List UInt8 := (Sha.mac seed (chn ++ Wi.ints [i, c])).take 16
def leafD (s : List UInt8) : List UInt8 := Sha.ofD 3 [Sha.ofD 2 [s]]
def nodeD (a b : List UInt8) : List UInt8 := Sha.ofD 4 [a, b]
def cat (f : Int → List UInt8) : Nat → List UInt8
  | 0 => []
  | n + 1 => cat f n ++ f (n : Int)
def leaf (seed : List UInt8) (k : Int) : List UInt8 := leafD (cat (fun c => advT k c 0 3 (start seed k c)) 68)
def tree (seed : List UInt8) : Nat → Int → List UInt8
  | 0, k => leaf seed k
  | l + 1, k => nodeD (tree seed l (2 * k)) (tree seed l (2 * k + 1))
theorem stp_16 (i c t : Int) (v : List UInt8) : (stp i c t v).length = 16 := Sha.ofD_len _ _
theorem adv_16 {i c a : Int} {v : List UInt8} (h : v.length = 16) : ∀ n, (adv i c a v n).length = 16
  | 0 => h
  | n + 1 => stp_16 _ _ _ _
theorem start_16 (seed : List UInt8) (i c : Int) : (start seed i c).length = 16 := by unfold start; rw [List.length_take, Sha.mac_len]; rfl
theorem leaf_16 (seed : List UInt8) (k : Int) : (leaf seed k).length = 16 := Sha.ofD_len _ _
theorem node_16 (a b : List UInt8) : (nodeD a b).length = 16 := Sha.ofD_len _ _
theorem tree_16 (seed : List UInt8) : ∀ l k, (tree seed l k).length = 16
  | 0, k => leaf_16 _ _
  | l + 1, k => node_16 _ _
theorem cat_len {f : Int → List UInt8} (h : ∀ c, (f c).length = 16) : ∀ n, (cat f n).length = 16 * n
  | 0 => rfl
  | n + 1 => by rw [cat, List.length_append, cat_len h n, h]; omega
theorem ints_len3 (a b c : Int) : (Wi.ints [a, b, c]).length ≤ 100 := by
  have h0 := Wi.int_len9 3
  have h1 := Wi.int_len9 a
  have h2 := Wi.int_len9 b
  have h3 := Wi.int_len9 c
  unfold Wi.ints
  simp only [List.length_append, List.length_cons, List.length_nil, List.flatMap_cons, List.flatMap_nil]
  have e : (Wi.int ((0 + 1 + 1 + 1 : Nat) : Int)).length ≤ 9 := h0.2
  omega
theorem ints_len2 (a b : Int) : (Wi.ints [a, b]).length ≤ 100 := by
  have h0 := Wi.int_len9 2
  have h1 := Wi.int_len9 a
  have h2 := Wi.int_len9 b
  unfold Wi.ints
  simp only [List.length_append, List.length_cons, List.length_nil, List.flatMap_cons, List.flatMap_nil]
  have e : (Wi.int ((0 + 1 + 1 : Nat) : Int)).length ≤ 9 := h0.2
  omega
theorem adv_next {i c a t : Int} {v : List UInt8} (h : a ≤ t) : adv i c a v (t + 1 - a).toNat = stp i c t (adv i c a v (t - a).toNat) := by
  rw [show (t + 1 - a).toNat = (t - a).toNat + 1 by omega, adv, show a + (((t - a).toNat : Nat) : Int) = t by omega]
theorem seed_set {c : UInt8} {i : Int} (h : 0 ≤ i ∧ i < 32) : (List.replicate i.toNat c ++ List.replicate (32 - i.toNat) 0).set i.toNat c = List.replicate (i + 1).toNat c ++ List.replicate (32 - (i + 1).toNat) 0 := by
  rw [show (i + 1).toNat = i.toNat + 1 by omega, show 32 - i.toNat = (32 - (i.toNat + 1)) + 1 by omega, List.replicate_succ, List.set_append_right _ _ (by simp), List.length_replicate, Nat.sub_self, List.set_cons_zero, List.replicate_succ']
  simp
end Si
end Go.Fw
end

section
namespace Go.Fw
namespace Si
/-- The digits of a digest. -/
def dg (d : List UInt8) (i : Nat) : Int := (((d.getD (i / 4) 0).toNat / 4 ^ (3 - i % 4) % 4 : Nat) : Int)
def dgs (d : List UInt8) (n : Nat) : List Int := (List.range n).map (dg d)
def sm (d : List UInt8) : Nat → Int
  | 0 => 0
  | n + 1 => sm d n + (3 - dg d n)
def digs (d : List UInt8) : List Int := dgs d 64 ++ [sm d 64 / 64, sm d 64 / 16 % 4, sm d 64 / 4 % 4, sm d 64 % 4]
theorem dg_rng (d : List UInt8) (i : Nat) : 0 ≤ dg d i ∧ dg d i ≤ 3 := by unfold dg; omega
theorem sm_rng (d : List UInt8) : ∀ n : Nat, 0 ≤ sm d n ∧ sm d n ≤ 3 * n
  | 0 => by simp [sm]
  | n + 1 => by
    have := sm_rng d n
    have := dg_rng d n
    rw [sm]
    omega
theorem dgs_len (d : List UInt8) (n : Nat) : (dgs d n).length = n := by simp [dgs]
theorem dgs_succ (d : List UInt8) (n : Nat) : dgs d (n + 1) = dgs d n ++ [dg d n] := by simp [dgs, List.range_succ]
theorem digs_len (d : List UInt8) : (digs d).length = 68 := by unfold digs; rw [List.length_append, dgs_len]; rfl
theorem dgs_mem {d : List UInt8} {n : Nat} : ∀ x ∈ dgs d n, 0 ≤ x ∧ x ≤ 3 := fun x hx => by
  obtain ⟨i, _, rfl⟩ := List.mem_map.1 hx
  exact dg_rng d i
theorem digs_mem {d : List UInt8} : ∀ x ∈ digs d, 0 ≤ x ∧ x ≤ 3 := fun x hx => by
  have h := sm_rng d 64
  rcases List.mem_append.1 hx with h1 | h1
  · exact dgs_mem x h1
  · simp only [List.mem_cons, List.not_mem_nil, or_false] at h1
    rcases h1 with rfl | rfl | rfl | rfl <;> omega
theorem sm_succ (d : List UInt8) {i : Int} (h : 0 ≤ i) : sm d (i + 1).toNat = sm d i.toNat + (3 - dg d i.toNat) := by
  rw [show (i + 1).toNat = i.toNat + 1 by omega, sm]
/-- What stands while the digits are made. -/
def dgW (d : List UInt8) (i : Nat) : List Int := dgs d i ++ List.replicate (68 - i) 0
theorem dgW_len {d : List UInt8} {i : Nat} (h : i ≤ 68) : (dgW d i).length = 68 := by unfold dgW; rw [List.length_append, dgs_len, List.length_replicate]; omega
theorem dgW_set {d : List UInt8} {i : Nat} (h : i < 68) : (dgW d i).set i (dg d i) = dgW d (i + 1) := by
  unfold dgW
  rw [List.set_append_right _ _ (by rw [dgs_len]; omega), dgs_len, Nat.sub_self, show 68 - i = (68 - (i + 1)) + 1 by omega, List.replicate_succ, List.set_cons_zero, dgs_succ]
  simp
theorem dgW_get {d : List UInt8} {i : Nat} : (dgW d (i + 1)).getD i 0 = dg d i := by
  unfold dgW
  rw [dgs_succ, List.getD_eq_getElem?_getD, List.getElem?_append_left (by simp [dgs_len]), List.getElem?_append_right (by simp [dgs_len]), dgs_len, Nat.sub_self]
  rfl
/-- The digits of the sum, from the last one. -/
def ckW (s : Int) : Nat → List Int
  | 0 => [0, 0, 0, 0]
  | 1 => [0, 0, 0, s % 4]
  | 2 => [0, 0, s / 4 % 4, s % 4]
  | 3 => [0, s / 4 / 4 % 4, s / 4 % 4, s % 4]
  | _ => [s / 4 / 4 / 4 % 4, s / 4 / 4 % 4, s / 4 % 4, s % 4]
def dv4 (s : Int) : Nat → Int
  | 0 => s
  | n + 1 => dv4 s n / 4
theorem dv4_rng {s : Int} (h : 0 ≤ s ∧ s ≤ 192) : ∀ n, 0 ≤ dv4 s n ∧ dv4 s n ≤ 192
  | 0 => h
  | n + 1 => by have := dv4_rng h n; rw [dv4]; omega
theorem ckW_set {d : List UInt8} {s : Int} {k : Nat} (h : k < 4) : (dgs d 64 ++ ckW s k).set (67 - k) (dv4 s k % 4) = dgs d 64 ++ ckW s (k + 1) := by
  rw [List.set_append_right _ _ (by rw [dgs_len]; omega), dgs_len]
  have : k = 0 ∨ k = 1 ∨ k = 2 ∨ k = 3 := by omega
  rcases this with rfl | rfl | rfl | rfl <;> rfl
theorem ckW_all {d : List UInt8} : dgs d 64 ++ ckW (sm d 64) 4 = digs d := by
  have h := sm_rng d 64
  unfold digs
  show dgs d 64 ++ [sm d 64 / 4 / 4 / 4 % 4, sm d 64 / 4 / 4 % 4, sm d 64 / 4 % 4, sm d 64 % 4] = _
  rw [show sm d 64 / 4 / 4 / 4 % 4 = sm d 64 / 64 by omega, show sm d 64 / 4 / 4 % 4 = sm d 64 / 16 % 4 by omega]
theorem ckW_len {d : List UInt8} {s : Int} : ∀ k, (dgs d 64 ++ ckW s k).length = 68
  | 0 => by rw [List.length_append, dgs_len]; rfl
  | 1 => by rw [List.length_append, dgs_len]; rfl
  | 2 => by rw [List.length_append, dgs_len]; rfl
  | 3 => by rw [List.length_append, dgs_len]; rfl
  | _ + 4 => by rw [List.length_append, dgs_len]; rfl
theorem dg_prog {d : List UInt8} {i : Int} (h : 0 ≤ i ∧ i < 64) : ((UInt8.ofNat ((d.getD (i / 4).toNat 0).toNat / 2 ^ min (6 - 2 * (i % 4)).toNat 8)).toNat : Int) % 4 = dg d i.toNat := by
  have e1 : (i / 4).toNat = i.toNat / 4 := by omega
  have hb := (d.getD (i.toNat / 4) 0).toNat_lt
  unfold dg
  rw [e1]
  have h4 : i.toNat % 4 = 0 ∨ i.toNat % 4 = 1 ∨ i.toNat % 4 = 2 ∨ i.toNat % 4 = 3 := by omega
  rcases h4 with h4 | h4 | h4 | h4
  · rw [h4, show min (6 - 2 * (i % 4)).toNat 8 = 6 by omega, UInt8.toNat_ofNat']
    simp only [Nat.reducePow, Nat.reduceSub] at *
    omega
  · rw [h4, show min (6 - 2 * (i % 4)).toNat 8 = 4 by omega, UInt8.toNat_ofNat']
    simp only [Nat.reducePow, Nat.reduceSub] at *
    omega
  · rw [h4, show min (6 - 2 * (i % 4)).toNat 8 = 2 by omega, UInt8.toNat_ofNat']
    simp only [Nat.reducePow, Nat.reduceSub] at *
    omega
  · rw [h4, show min (6 - 2 * (i % 4)).toNat 8 = 0 by omega, UInt8.toNat_ofNat']
    simp only [Nat.reducePow, Nat.reduceSub] at *
    omega
/-- The four digits of a byte. -/
def l4 (d : List UInt8) (i : Nat) : List Int := [dg d (4 * i), dg d (4 * i + 1), dg d (4 * i + 2), dg d (4 * i + 3)]
theorem l4_eq {d : List UInt8} {i : Nat} : [(((d.getD i 0).toNat : Int) / 64), (((d.getD i 0).toNat : Int) / 16 % 4), (((d.getD i 0).toNat : Int) / 4 % 4), (((d.getD i 0).toNat : Int) % 4)] = l4 d i := by
  have hb := (d.getD i 0).toNat_lt
  have e : ∀ j, j < 4 → dg d (4 * i + j) = (((d.getD i 0).toNat / 4 ^ (3 - j) % 4 : Nat) : Int) := fun j hj => by
    unfold dg
    rw [show (4 * i + j) / 4 = i by omega, show (4 * i + j) % 4 = j by omega]
  have e0 := e 0 (by decide)
  have e1 := e 1 (by decide)
  have e2 := e 2 (by decide)
  have e3 := e 3 (by decide)
  simp only [Nat.reducePow, Nat.reduceSub] at e0 e1 e2 e3
  unfold l4
  rw [show 4 * i = 4 * i + 0 by omega, e0, show 4 * i + 0 + 1 = 4 * i + 1 by omega, e1, show 4 * i + 0 + 2 = 4 * i + 2 by omega, e2, show 4 * i + 0 + 3 = 4 * i + 3 by omega, e3]
  congr 1
  · omega
  · congr 1
    rw [Nat.div_one]
    rfl
theorem l4_get {d : List UInt8} {i k : Nat} (h : k < 4) : (l4 d i).getD k 0 = dg d (4 * i + k) := by
  have : k = 0 ∨ k = 1 ∨ k = 2 ∨ k = 3 := by omega
  rcases this with rfl | rfl | rfl | rfl <;> rfl
end Si
end Go.Fw
end

section
/- Leaves and trees, and what is remembered of them. -/
namespace Go.Fw
namespace Si
theorem cat_next {f : Int → List UInt8} {i : Int} (h : 0 ≤ i) : cat f (i + 1).toNat = cat f i.toNat ++ f i := by
  rw [show (i + 1).toNat = i.toNat + 1 by omega, cat, Int.toNat_of_nonneg h]
/-- The top of a chain. -/
def top (seed : List UInt8) (k c : Int) : List UInt8 := advT k c 0 3 (start seed k c)
theorem leaf_eq (seed : List UInt8) (k : Int) : leaf seed k = leafD (cat (top seed k) 68) := rfl
theorem advT_16 {i c a b : Int} {v : List UInt8} (h : v.length = 16) : (advT i c a b v).length = 16 := adv_16 h _
theorem top_16 (seed : List UInt8) (k c : Int) : (top seed k c).length = 16 := advT_16 (start_16 _ _ _)
theorem cat68 {f : Int → List UInt8} (h : ∀ c, (f c).length = 16) : (cat f (68 : Int).toNat).length = 1088 := cat_len h 68
def dgv (l : List UInt8) : Value := .agg (l.map vb).toArray
/-- What is remembered is right. -/
def MOk (seed : List UInt8) (es : List MapEntry) : Prop :=
  ∃ ml : List (List Int × Value), MpR aiv ml es ∧ (∀ p ∈ ml, p.1.length = 2) ∧ ∀ (l : Nat) (k : Int) v, aget ml [(l : Int), k] = some v → v = dgv (tree seed l k)
theorem MOk.nil (seed : List UInt8) : MOk seed [] := ⟨[], rfl, fun _ h => (by cases h), fun l k v h => by cases h⟩
theorem fnd_len {α : Type} [DecidableEq α] {q : α → Prop} {a : α} {v : Value} : ∀ {l : List (α × Value)}, (∀ p ∈ l, q p.1) → q a → ∀ p ∈ aset a v l, q p.1
  | [], _, ha, p, hp => by
    rw [aset, List.mem_singleton] at hp
    subst hp; exact ha
  | x :: l, hl, ha, p, hp => by
    rw [aset] at hp
    split at hp
    · rcases List.mem_cons.1 hp with rfl | hp
      · exact ha
      · exact hl p (List.mem_cons_of_mem _ hp)
    · rcases List.mem_cons.1 hp with rfl | hp
      · exact hl _ List.mem_cons_self
      · exact fnd_len (fun p hp => hl p (List.mem_cons_of_mem _ hp)) ha p hp
theorem MOk.set {seed : List UInt8} {ml : List (List Int × Value)} {es : List MapEntry} {l : Nat} {k : Int} {v : Value} (h : MpR aiv (aset [(l : Int), k] v ml) es) (hl : ∀ p ∈ ml, p.1.length = 2) (hm : ∀ (l : Nat) (k : Int) v, aget ml [(l : Int), k] = some v → v = dgv (tree seed l k)) (hv : v = dgv (tree seed l k)) : MOk seed es := by
  refine ⟨_, h, fnd_len (q := fun x : List Int => x.length = 2) hl rfl, fun l' k' v' h' => ?_⟩
  rw [aget_aset] at h'
  split at h'
  · rename_i he
    simp only [List.cons.injEq, Int.natCast_inj, and_true] at he
    obtain ⟨rfl, rfl⟩ := he
    simp only [Option.some.injEq] at h'
    rw [← h', hv]
  · exact hm l' k' v' h'
/-- How far the numbers of a tree go. -/
def Kb (l : Nat) (k : Int) : Prop := 0 ≤ k ∧ (k + 1) * 2 ^ l ≤ 1048576
theorem Kb.rng {l : Nat} {k : Int} (h : Kb l k) : 0 ≤ k ∧ k < 1048576 := by
  refine ⟨h.1, ?_⟩
  have h1 : (1 : Int) ≤ 2 ^ l := by exact_mod_cast Nat.one_le_two_pow
  have h2 : (k + 1) * 1 ≤ (k + 1) * 2 ^ l := Int.mul_le_mul_of_nonneg_left h1 (by have := h.1; omega)
  have := h.2
  omega
theorem Kb.l {l : Nat} {k : Int} (h : Kb (l + 1) k) : Kb l (2 * k) := by
  refine ⟨by have := h.1; omega, ?_⟩
  have h2 := h.2
  rw [Int.pow_succ, Int.mul_comm _ 2, ← Int.mul_assoc] at h2
  have h1 : (0 : Int) ≤ 2 ^ l := by exact_mod_cast Nat.zero_le _
  have : (2 * k + 1) * 2 ^ l ≤ (k + 1) * 2 * 2 ^ l := Int.mul_le_mul_of_nonneg_right (by omega) h1
  omega
theorem Kb.r {l : Nat} {k : Int} (h : Kb (l + 1) k) : Kb l (2 * k + 1) := by
  refine ⟨by have := h.1; omega, ?_⟩
  have h2 := h.2
  rw [Int.pow_succ, Int.mul_comm _ 2, ← Int.mul_assoc] at h2
  rw [show 2 * k + 1 + 1 = (k + 1) * 2 by omega]
  exact h2
theorem look {seed : List UInt8} {ml : List (List Int × Value)} {l : Nat} {k : Int} {ze : Value} (hz : ze = dgv (List.replicate 16 0)) (hm : ∀ (l : Nat) (k : Int) v, aget ml [(l : Int), k] = some v → v = dgv (tree seed l k)) :
    ∃ (vv : List UInt8) (ok : Bool), vv.length = 16 ∧ (aget ml [(l : Int), k]).getD ze = .agg (vv.map vb).toArray ∧ (aget ml [(l : Int), k]).isSome = ok ∧ (ok = true → vv = tree seed l k) := by
  cases h : aget ml [(l : Int), k] with
  | none => exact ⟨List.replicate 16 0, false, rfl, hz, rfl, fun h => by cases h⟩
  | some v => exact ⟨tree seed l k, true, tree_16 _ _ _, hm l k v h, rfl, fun _ => rfl⟩
theorem tree_0 (seed : List UInt8) (k : Int) : leafD (cat (top seed k) 68) = tree seed 0 k := rfl
theorem tree_s (seed : List UInt8) (l : Nat) (k : Int) : nodeD (tree seed l (2 * k)) (tree seed l (2 * k + 1)) = tree seed (l + 1) k := rfl
end Si
end Go.Fw
end

section
/- The numbers of a tree, the public key, what is signed. -/
namespace Go.Fw
namespace Si
theorem Kb.root {l : Nat} (h : l ≤ 6) : Kb l 0 := by
  refine ⟨Int.le_refl 0, ?_⟩
  have : (2 : Nat) ^ l ≤ 2 ^ 6 := Nat.pow_le_pow_right (by decide) h
  have h2 : ((2 : Int) ^ l) ≤ 64 := by exact_mod_cast this
  rw [Int.zero_add, Int.one_mul]; omega
def okH (s : List UInt8) (h : Int) : Prop := ((s.length : Int) = 32 ∧ 0 ≤ h) ∧ h ≤ 6
instance (s : List UInt8) (h : Int) : Decidable (okH s h) := by unfold okH; infer_instance
/-- The public key. -/
def pub (s : List UInt8) (h : Int) : List UInt8 := if okH s h then tree s h.toNat 0 else List.replicate 16 0
def pubE (s : List UInt8) (h : Int) : Int := if okH s h then 0 else 1
/-- What is signed. -/
def dig (p : List UInt8) (i : Int) (m : List UInt8) : List UInt8 := Sha.ofD 5 [p, Wi.int i, m]
theorem pub_16 (s : List UInt8) (h : Int) : (pub s h).length = 16 := by unfold pub; split; exact tree_16 _ _ _; rfl
theorem dig_16 (p : List UInt8) (i : Int) (m : List UInt8) : (dig p i m).length = 16 := Sha.ofD_len _ _
/-- The first n nodes of a level. -/
def lev (s : List UInt8) (l n : Nat) : List (List UInt8) := (List.range n).map fun (k : Nat) => tree s l (k : Int)
/-- The levels of a tree of height h, the first n. -/
def levs (s : List UInt8) (h n : Nat) : List (List (List UInt8)) := (List.range n).map fun l => lev s l (2 ^ (h - l))
theorem p2_succ {h l : Nat} (hl : l < h) : 2 ^ (h - l) = 2 * 2 ^ (h - (l + 1)) := by
  rw [show h - l = (h - (l + 1)) + 1 by omega, Nat.pow_succ, Nat.mul_comm]
theorem p2_le {h l : Nat} (hh : h ≤ 6) : 2 ^ (h - l) ≤ 64 := by
  have : (2 : Nat) ^ (h - l) ≤ 2 ^ 6 := Nat.pow_le_pow_right (by decide) (by omega)
  omega
theorem p2_pos {h : Nat} : 0 < 2 ^ h := Nat.pow_pos (by decide)
theorem pw {h : Int} (hh : h ≤ 63) : (1 : Int) * 2 ^ (min h.toNat 64) = ((2 ^ h.toNat : Nat) : Int) := by
  rw [Nat.min_eq_left (by omega), Int.one_mul]; simp
end Si
end Go.Fw
end

section
/- A signature, in plain words. -/
namespace Go.Fw
namespace Si
/-- The other child of a parent. -/
def sib (j : Int) : Int := if j % 2 = 1 then j - 1 else j + 1
theorem ixor_sib {x : Int} (h0 : 0 ≤ x) (h1 : x < 64) : ixor x 1 = sib x := by
  have key : ∀ n : Fin 64, ixor ((n.val : Nat) : Int) 1 = sib ((n.val : Nat) : Int) := by decide +kernel
  have := key ⟨x.toNat, by omega⟩
  simpa only [Int.toNat_of_nonneg h0] using this
theorem sib_lt {j : Int} {b : Nat} (h0 : 0 ≤ j) (h1 : j < 2 * (b : Int)) : 0 ≤ sib j ∧ sib j < 2 * (b : Int) := by unfold sib; split <;> omega
theorem p2_add {h l : Nat} (hl : l ≤ h) : 2 ^ h = 2 ^ (h - l) * 2 ^ l := by rw [← Nat.pow_add]; congr 1; omega
theorem div_lt {i : Int} {h l : Nat} (hl : l ≤ h) (h0 : 0 ≤ i) (h1 : i < ((2 ^ h : Nat) : Int)) : 0 ≤ i / 2 ^ l ∧ i / 2 ^ l < ((2 ^ (h - l) : Nat) : Int) := by
  have hp : (0 : Int) < 2 ^ l := by exact_mod_cast (p2_pos (h := l))
  refine ⟨Int.ediv_nonneg h0 (Int.le_of_lt hp), Int.ediv_lt_of_lt_mul hp ?_⟩
  have e : (((2 ^ (h - l) : Nat) : Int)) * 2 ^ l = ((2 ^ h : Nat) : Int) := by rw [p2_add hl]; simp
  rw [e]; exact h1
theorem div_next {i l : Int} (h0 : 0 ≤ i) (hl : 0 ≤ l) : i / 2 ^ (l + 1).toNat = i / 2 ^ l.toNat / 2 := by
  have hp : (0 : Int) ≤ 2 ^ l.toNat := Int.pow_nonneg (by omega)
  rw [show (l + 1).toNat = l.toNat + 1 by omega, Int.pow_succ, Int.ediv_ediv_of_nonneg hp]
theorem sib_rng {i : Int} {h l : Nat} (hl : l < h) (h0 : 0 ≤ i) (h1 : i < ((2 ^ h : Nat) : Int)) : 0 ≤ sib (i / 2 ^ l) ∧ sib (i / 2 ^ l) < ((2 ^ (h - l) : Nat) : Int) := by
  have h2 := div_lt (Nat.le_of_lt hl) h0 h1
  rw [p2_succ hl] at h2 ⊢
  have := sib_lt (b := 2 ^ (h - (l + 1))) h2.1 (by have := h2.2; rw [Int.natCast_mul] at this; exact this)
  rw [Int.natCast_mul]; exact this
theorem Kb.of {h l : Nat} {k : Int} (hh : h ≤ 6) (hl : l ≤ h) (h0 : 0 ≤ k) (h1 : k < ((2 ^ (h - l) : Nat) : Int)) : Kb l k := by
  refine ⟨h0, ?_⟩
  have hp : (0 : Int) ≤ 2 ^ l := Int.pow_nonneg (by omega)
  have e : (((2 ^ (h - l) : Nat) : Int)) * 2 ^ l = ((2 ^ h : Nat) : Int) := by rw [p2_add hl]; simp
  have h2 : (k + 1) * 2 ^ l ≤ (((2 ^ (h - l) : Nat) : Int)) * 2 ^ l := Int.mul_le_mul_of_nonneg_right (by omega) hp
  have h3 := p2_le (h := h) (l := 0) hh
  rw [Nat.sub_zero] at h3
  rw [e] at h2
  have h4 : ((2 ^ h : Nat) : Int) ≤ 64 := by exact_mod_cast h3
  omega
theorem Kb.sib {h l : Nat} {i : Int} (hh : h ≤ 6) (hl : l < h) (h0 : 0 ≤ i) (h1 : i < ((2 ^ h : Nat) : Int)) : Kb l (sib (i / 2 ^ l)) :=
  Kb.of hh (Nat.le_of_lt hl) (sib_rng hl h0 h1).1 (sib_rng hl h0 h1).2
/-- What stands for a chain in a signature. -/
def ch (s : List UInt8) (i : Int) (d : List Int) (c : Int) : List UInt8 := advT i c 0 (d.getD c.toNat 0) (start s i c)
/-- The neighbour at a level. -/
def nb (s : List UInt8) (i l : Int) : List UInt8 := tree s l.toNat (sib (i / 2 ^ l.toNat))
theorem ch_16 (s : List UInt8) (i : Int) (d : List Int) (c : Int) : (ch s i d c).length = 16 := advT_16 (start_16 _ _ _)
theorem nb_16 (s : List UInt8) (i l : Int) : (nb s i l).length = 16 := tree_16 _ _ _
theorem cat_0 (f : Int → List UInt8) : cat f 0 = [] := rfl
def sgD (s : List UInt8) (h i : Int) (m : List UInt8) : List Int := digs (dig (tree s h.toNat 0) i m)
def sgA (s : List UInt8) (h i : Int) (m : List UInt8) : List UInt8 := Wi.int i ++ cat (ch s i (sgD s h i m)) 68 ++ cat (nb s i) h.toNat
def okI (h i : Int) : Prop := 0 ≤ i ∧ i < ((2 ^ h.toNat : Nat) : Int)
instance (h i : Int) : Decidable (okI h i) := by unfold okI; infer_instance
def sigS (s : List UInt8) (h i : Int) (m : List UInt8) : List UInt8 := if okH s h then if okI h i then sgA s h i m else [] else []
def sigE (s : List UInt8) (h i : Int) : Int := if okH s h then if okI h i then 0 else 20 else 1
theorem digs_get (d : List UInt8) (c : Nat) : 0 ≤ (digs d).getD c 0 ∧ (digs d).getD c 0 ≤ 3 := by
  by_cases h : c < 68
  · refine digs_mem (d := d) _ ?_
    rw [List.getD_eq_getElem?_getD, List.getElem?_eq_getElem (by rw [digs_len]; exact h)]
    exact List.getElem_mem _
  · rw [List.getD_eq_getElem?_getD, List.getElem?_eq_none (by rw [digs_len]; omega)]; decide
theorem sg_len1 (s : List UInt8) (i : Int) (d : List Int) (c : Nat) (hc : c ≤ 68) : 1 ≤ (Wi.int i ++ cat (ch s i d) c).length ∧ (Wi.int i ++ cat (ch s i d) c).length ≤ 1200 := by
  have h0 := Wi.int_len9 i
  rw [List.length_append, cat_len (ch_16 s i d)]; omega
theorem sg_len2 (s : List UInt8) (i : Int) (d : List Int) (l : Nat) (hl : l ≤ 6) : 1 ≤ (Wi.int i ++ cat (ch s i d) 68 ++ cat (nb s i) l).length ∧ (Wi.int i ++ cat (ch s i d) 68 ++ cat (nb s i) l).length ≤ 1400 := by
  have h0 := Wi.int_len9 i
  rw [List.length_append, List.length_append, cat_len (ch_16 s i d), cat_len (nb_16 s i)]; omega
end Si
end Go.Fw
end

section
/- What is made of a signature, in plain words. -/
namespace Go.Fw
namespace Si
theorem getInt_bd (b : List UInt8) : 0 ≤ (Wi.getInt b).2.1 ∧ (Wi.getInt b).2.1 ≤ b.length ∧ (Wi.getInt b).2.1 ≤ 9 := by
  rcases Wi.getInt_e b with h | ⟨h, _⟩
  · have := Wi.getInt_pos h; omega
  · have e : (Wi.getInt b).2.1 = 0 := by rw [h]
    omega
theorem iand_par {x : Int} (h0 : 0 ≤ x) (h1 : x < 64) : iand x 1 = x % 2 := by
  have key : ∀ n : Fin 64, iand ((n.val : Nat) : Int) 1 = ((n.val : Nat) : Int) % 2 := by decide +kernel
  have := key ⟨x.toNat, by omega⟩
  simpa only [Int.toNat_of_nonneg h0] using this
/-- The k-th value of what follows the index. -/
def vl (r : List UInt8) (k : Int) : List UInt8 := (r.drop (16 * k).toNat).take 16
theorem vl_16 {r : List UInt8} {k : Int} (h0 : 0 ≤ k) (h : 16 * k + 16 ≤ r.length) : (vl r k).length = 16 := by
  unfold vl; rw [List.length_take, List.length_drop]; omega
theorem vl_eq {r : List UInt8} {k : Int} (h0 : 0 ≤ k) : List.drop (k * 16).toNat (List.take ((k + 1) * 16).toNat r) = vl r k := by
  unfold vl; rw [List.drop_take, show ((k + 1) * 16).toNat - (k * 16).toNat = 16 by omega, Int.mul_comm]
def pd (v : List UInt8) : List UInt8 := (v ++ List.replicate 16 0).take 16
theorem pd_16 (v : List UInt8) : (pd v).length = 16 := by unfold pd; rw [List.length_take, List.length_append, List.length_replicate]; omega
theorem pd_eq {v : List UInt8} (h : v.length = 16) : pd v = v := by unfold pd; rw [List.take_append_of_le_length (by omega), List.take_of_length_le (by omega)]
/-- A chain's top. -/
def vT (i : Int) (d : List Int) (r : List UInt8) (c : Int) : List UInt8 := advT i c (d.getD c.toNat 0) 3 (pd (vl r c))
theorem vT_eq {i : Int} {d : List Int} {r : List UInt8} {c : Int} (h0 : 0 ≤ c) (h : 16 * c + 16 ≤ r.length) : advT i c (d.getD c.toNat 0) 3 (vl r c) = vT i d r c := by unfold vT; rw [pd_eq (vl_16 h0 h)]
theorem vT_16 (i : Int) (d : List Int) (r : List UInt8) (c : Int) : (vT i d r c).length = 16 := advT_16 (pd_16 _)
/-- The node at a level. -/
def vv (i : Int) (d : List Int) (r : List UInt8) : Nat → List UInt8
  | 0 => leafD (cat (vT i d r) 68)
  | l + 1 => if i / 2 ^ l % 2 = 1 then nodeD (vl r (68 + (l : Int))) (vv i d r l) else nodeD (vv i d r l) (vl r (68 + (l : Int)))
theorem vv_16 (i : Int) (d : List Int) (r : List UInt8) : ∀ l, (vv i d r l).length = 16
  | 0 => Sha.ofD_len _ _
  | l + 1 => by rw [vv]; split <;> exact node_16 _ _
theorem vv_0 (i : Int) (d : List Int) (r : List UInt8) : vv i d r (0 : Int).toNat = Sha.ofD 3 [Sha.ofD 2 [cat (vT i d r) (68 : Int).toNat]] := rfl
theorem vv_t {i : Int} {d : List Int} {r : List UInt8} {l : Int} (h0 : 0 ≤ l) (h : i / 2 ^ l.toNat % 2 = 1) : vv i d r (l + 1).toNat = nodeD (vl r (68 + l)) (vv i d r l.toNat) := by
  rw [show (l + 1).toNat = l.toNat + 1 by omega, vv, if_pos h, Int.toNat_of_nonneg h0]
theorem vv_f {i : Int} {d : List Int} {r : List UInt8} {l : Int} (h0 : 0 ≤ l) (h : ¬ i / 2 ^ l.toNat % 2 = 1) : vv i d r (l + 1).toNat = nodeD (vv i d r l.toNat) (vl r (68 + l)) := by
  rw [show (l + 1).toNat = l.toNat + 1 by omega, vv, if_neg h, Int.toNat_of_nonneg h0]
def rst (x : List UInt8) : List UInt8 := x.drop (Wi.getInt x).2.1.toNat
/-- What Verify says: the index and the error. -/
def okF (h : Int) (x : List UInt8) : Prop := okI h (Wi.getInt x).1 ∧ ((rst x).length : Int) = (68 + h) * 16
instance (h : Int) (x : List UInt8) : Decidable (okF h x) := by unfold okF; infer_instance
def root (p : List UInt8) (h : Int) (m x : List UInt8) : List UInt8 := vv (Wi.getInt x).1 (digs (dig p (Wi.getInt x).1 m)) (rst x) h.toNat
def ver (p : List UInt8) (h : Int) (m x : List UInt8) : Int × Int :=
  if 0 ≤ h ∧ h ≤ 6 then
    if (Wi.getInt x).2.2 = 0 then
      if okF h x then
        if root p h m x = p then ((Wi.getInt x).1, 0) else (0, 19)
      else (0, 2)
    else (0, (Wi.getInt x).2.2)
  else (0, 1)
end Si
end Go.Fw
end

section
/- What Sign makes is what Verify takes. -/
namespace Go.Fw
namespace Si
attribute [local irreducible] Sha.ofD Sha.mac leafD nodeD start
theorem adv_add (i c a : Int) (v : List UInt8) (n : Nat) : ∀ k, adv i c (a + n) (adv i c a v n) k = adv i c a v (n + k)
  | 0 => rfl
  | k + 1 => by
    rw [adv, adv_add i c a v n k, ← Nat.add_assoc, adv]
    congr 1
    rw [Int.natCast_add]; omega
theorem advT_advT {i c d : Int} (v : List UInt8) (h : 0 ≤ d ∧ d ≤ 3) : advT i c d 3 (advT i c 0 d v) = advT i c 0 3 v := by
  unfold advT
  have := adv_add i c 0 v (d - 0).toNat (3 - d).toNat
  rw [show (0 : Int) + ((d - 0).toNat : Nat) = d by omega, show (d - 0).toNat + (3 - d).toNat = (3 - 0 : Int).toNat by omega] at this
  exact this
theorem cat_congr {f g : Int → List UInt8} : ∀ n : Nat, (∀ c : Int, 0 ≤ c → c < n → f c = g c) → cat f n = cat g n
  | 0, _ => rfl
  | n + 1, h => by rw [cat, cat, cat_congr n fun c h0 h1 => h c h0 (by omega), h n (by omega) (by omega)]
theorem cat_split (f : Int → List UInt8) (k : Nat) : ∀ n, k < n → ∃ y, cat f n = cat f k ++ (f k ++ y)
  | 0, h => absurd h (by omega)
  | n + 1, h => by
    by_cases hk : k = n
    · subst hk; exact ⟨[], by rw [cat, List.append_nil]⟩
    · obtain ⟨y, hy⟩ := cat_split f k n (by omega)
      exact ⟨y ++ f n, by rw [cat, hy]; simp⟩
theorem vl_cat {f : Int → List UInt8} (hf : ∀ c, (f c).length = 16) {n : Nat} {k : Int} (h0 : 0 ≤ k) (h1 : k < n) (z : List UInt8) : vl (cat f n ++ z) k = f k := by
  obtain ⟨y, hy⟩ := cat_split f k.toNat n (by omega)
  have hl := cat_len hf k.toNat
  unfold vl
  rw [hy, List.append_assoc, List.drop_append_of_le_length (by omega), List.drop_of_length_le (by omega), List.nil_append, List.append_assoc, List.take_append_of_le_length (by rw [hf]; omega), List.take_of_length_le (by rw [hf]; omega), Int.toNat_of_nonneg h0]
theorem vl_app {x y : List UInt8} {j : Nat} (hx : x.length = 16 * j) {k : Int} (h0 : 0 ≤ k) : vl (x ++ y) ((j : Int) + k) = vl y k := by
  unfold vl
  rw [List.drop_append, List.drop_of_length_le (by omega), List.nil_append, hx, show (16 * ((j : Int) + k)).toNat - 16 * j = (16 * k).toNat by omega]
section
variable {s : List UInt8} {h i : Int} {m : List UInt8}
/-- What follows the index in a signature. -/
def sgR (s : List UInt8) (h i : Int) (m : List UInt8) : List UInt8 := cat (ch s i (sgD s h i m)) 68 ++ cat (nb s i) h.toNat
theorem sgA_eq (s : List UInt8) (h i : Int) (m : List UInt8) : sgA s h i m = Wi.int i ++ sgR s h i m := by unfold sgA sgR; rw [List.append_assoc]
theorem sgR_len (s : List UInt8) (h i : Int) (m : List UInt8) : (sgR s h i m).length = 16 * (68 + h.toNat) := by
  unfold sgR; rw [List.length_append, cat_len (ch_16 _ _ _), cat_len (nb_16 _ _)]; omega
theorem okI_rng (hok : okH s h) (hoi : okI h i) : -9223372036854775808 ≤ i ∧ i ≤ 9223372036854775807 := by
  have h2 := hok.2
  have h1 := p2_le (h := h.toNat) (l := 0) (by omega)
  rw [Nat.sub_zero] at h1
  have h3 := hoi.2
  have h4 : ((2 ^ h.toNat : Nat) : Int) ≤ 64 := by exact_mod_cast h1
  have := hoi.1
  omega
theorem gi_app (hr : -9223372036854775808 ≤ i ∧ i ≤ 9223372036854775807) (t : List UInt8) : Wi.getInt (Wi.int i ++ t) = (i, ((Wi.int i).length : Int), 0) := Wi.getInt_int i hr t
theorem rst_app (hr : -9223372036854775808 ≤ i ∧ i ≤ 9223372036854775807) (t : List UInt8) : rst (Wi.int i ++ t) = t := by
  unfold rst
  rw [gi_app hr, Int.toNat_natCast, List.drop_append_of_le_length (Nat.le_refl _), List.drop_length, List.nil_append]
theorem sib_even {q : Int} (h : ¬ q % 2 = 1) : q = 2 * (q / 2) ∧ sib q = 2 * (q / 2) + 1 := by unfold sib; rw [if_neg h]; omega
theorem sib_odd {q : Int} (h : q % 2 = 1) : q = 2 * (q / 2) + 1 ∧ sib q = 2 * (q / 2) := by unfold sib; rw [if_pos h]; omega
theorem vl_nb (s : List UInt8) (h i : Int) (m : List UInt8) {l : Nat} (hl : l < h.toNat) : vl (sgR s h i m) (68 + (l : Int)) = tree s l (sib (i / 2 ^ l)) := by
  unfold sgR
  rw [show (68 : Int) = ((68 : Nat) : Int) from rfl, vl_app (by rw [cat_len (ch_16 _ _ _)]) (by omega)]
  have := vl_cat (nb_16 s i) (n := h.toNat) (k := (l : Int)) (by omega) (by omega) []
  rw [List.append_nil] at this
  rw [this]; unfold nb; rw [Int.toNat_natCast]
theorem vv_tree (hoi : okI h i) (d : List Int) (h0 : vv i d (sgR s h i m) 0 = tree s 0 i) : ∀ l : Nat, l ≤ h.toNat → vv i d (sgR s h i m) l = tree s l (i / 2 ^ l)
  | 0, _ => by rw [h0, Int.pow_zero, Int.ediv_one]
  | l + 1, hl => by
    have ih := vv_tree hoi d h0 l (by omega)
    have hv : vl (sgR s h i m) (68 + (l : Int)) = tree s l (sib (i / 2 ^ l)) := by
      unfold sgR
      rw [show (68 : Int) = ((68 : Nat) : Int) from rfl, vl_app (by rw [cat_len (ch_16 _ _ _)]) (by omega)]
      have := vl_cat (nb_16 s i) (n := h.toNat) (k := (l : Int)) (by omega) (by omega) []
      rw [List.append_nil] at this
      rw [this]; unfold nb; rw [Int.toNat_natCast]
    have hd := div_next (i := i) (l := (l : Int)) hoi.1 (by omega)
    rw [show ((l : Int) + 1).toNat = l + 1 by omega, Int.toNat_natCast] at hd
    rw [vv, hv, ih, hd]
    split
    · rename_i hp
      have := sib_odd hp
      rw [this.2, tree]
      congr 2
      exact this.1
    · rename_i hp
      have := sib_even hp
      rw [this.2, tree]
      congr 2
      exact this.1
theorem vT_ok (d : List Int) (hd : ∀ c : Nat, 0 ≤ d.getD c 0 ∧ d.getD c 0 ≤ 3) {y : List UInt8} {c : Int} (h0 : 0 ≤ c) (h1 : c < 68) : vT i d (cat (ch s i d) 68 ++ y) c = top s i c := by
  unfold vT
  rw [vl_cat (ch_16 _ _ _) h0 (by omega), pd_eq (ch_16 _ _ _ _)]
  unfold ch top
  rw [advT_advT _ (hd _)]
theorem ver_sg (hok : okH s h) (hoi : okI h i) : ver (tree s h.toNat 0) h m (sgA s h i m) = (i, 0) := by
  have hr := okI_rng hok hoi
  have h1 : Wi.getInt (sgA s h i m) = (i, ((Wi.int i).length : Int), 0) := by rw [sgA_eq, gi_app hr]
  have h2 : rst (sgA s h i m) = sgR s h i m := by rw [sgA_eq, rst_app hr]
  have hof : okF h (sgA s h i m) := by
    unfold okF
    rw [h1, h2, sgR_len]
    have := hok.1.2
    exact ⟨hoi, by omega⟩
  have h0 : vv i (sgD s h i m) (sgR s h i m) 0 = tree s 0 i := by
    rw [vv, ← tree_0]
    exact congrArg leafD (cat_congr 68 fun c h0 h1 => vT_ok _ (digs_get _) h0 (by omega))
  have hroot : root (tree s h.toNat 0) h m (sgA s h i m) = tree s h.toNat 0 := by
    unfold root
    rw [h1, h2]
    rw [show digs (dig (tree s h.toNat 0) (i, ((Wi.int i).length : Int), (0 : Int)).1 m) = sgD s h i m from rfl, vv_tree hoi _ h0 _ (Nat.le_refl _)]
    have e : ((2 ^ h.toNat : Nat) : Int) = 2 ^ h.toNat := by simp
    rw [Int.ediv_eq_zero_of_lt hoi.1 (by rw [← e]; exact hoi.2)]
  unfold ver
  rw [if_pos ⟨hok.1.2, hok.2⟩, h1]
  simp only
  rw [if_pos hof, if_pos hroot, if_pos trivial]
end
end Si
end Go.Fw
end

section
/- What the last three laws want. -/
namespace Go.Fw
namespace Si
/-! ### digits cross -/
def ltB (x y : List Int) : Nat → Bool
  | 0 => false
  | n + 1 => ltB x y n || decide (x.getD n 0 < y.getD n 0)
theorem ltB_f {x y : List Int} : ∀ {n : Nat}, ltB x y n = false → ∀ i, i < n → y.getD i 0 ≤ x.getD i 0
  | 0, _, i, hi => absurd hi (by omega)
  | n + 1, h, i, hi => by
    rw [ltB, Bool.or_eq_false_iff, decide_eq_false_iff_not] at h
    by_cases hin : i = n
    · subst hin; omega
    · exact ltB_f h.1 i (by omega)
theorem digs_dg (d : List UInt8) {i : Nat} (h : i < 64) : (digs d).getD i 0 = dg d i := by
  unfold digs
  rw [List.getD_eq_getElem?_getD, List.getElem?_append_left (by rw [dgs_len]; exact h), List.getElem?_eq_getElem (by rw [dgs_len]; exact h)]
  simp [dgs]
theorem digs_ck (d : List UInt8) : (digs d).getD 64 0 = sm d 64 / 64 ∧ (digs d).getD 65 0 = sm d 64 / 16 % 4 ∧ (digs d).getD 66 0 = sm d 64 / 4 % 4 ∧ (digs d).getD 67 0 = sm d 64 % 4 := by
  have key : ∀ k, (digs d).getD (64 + k) 0 = [sm d 64 / 64, sm d 64 / 16 % 4, sm d 64 / 4 % 4, sm d 64 % 4].getD k 0 := fun k => by
    unfold digs
    rw [List.getD_eq_getElem?_getD, List.getElem?_append_right (by rw [dgs_len]; omega), dgs_len, Nat.add_sub_cancel_left, List.getD_eq_getElem?_getD]
  exact ⟨key 0, key 1, key 2, key 3⟩
theorem sm_le {a b : List UInt8} : ∀ n : Nat, (∀ i, i < n → dg b i ≤ dg a i) → sm a n ≤ sm b n ∧ (sm a n = sm b n → ∀ i, i < n → dg a i = dg b i)
  | 0, _ => ⟨Int.le_refl _, fun _ i hi => absurd hi (by omega)⟩
  | n + 1, h => by
    have ih := sm_le n fun i hi => h i (by omega)
    have hn := h n (by omega)
    rw [sm, sm]
    refine ⟨by omega, fun he i hi => ?_⟩
    by_cases hin : i = n
    · subst hin; omega
    · exact ih.2 (by omega) i (by omega)
theorem dg_inj {a b : List UInt8} (ha : a.length = 16) (hb : b.length = 16) (h : ∀ i, i < 64 → dg a i = dg b i) : a = b := by
  apply List.ext_getElem (by omega)
  intro k h1 h2
  have e : ∀ (l : List UInt8) (hl : k < l.length), l.getD k 0 = l[k] := fun l hl => by rw [List.getD_eq_getElem?_getD, List.getElem?_eq_getElem hl]; rfl
  have p0 := h (4 * k) (by omega)
  have p1 := h (4 * k + 1) (by omega)
  have p2 := h (4 * k + 2) (by omega)
  have p3 := h (4 * k + 3) (by omega)
  unfold dg at p0 p1 p2 p3
  rw [show 4 * k / 4 = k by omega, show 4 * k % 4 = 0 by omega] at p0
  rw [show (4 * k + 1) / 4 = k by omega, show (4 * k + 1) % 4 = 1 by omega] at p1
  rw [show (4 * k + 2) / 4 = k by omega, show (4 * k + 2) % 4 = 2 by omega] at p2
  rw [show (4 * k + 3) / 4 = k by omega, show (4 * k + 3) % 4 = 3 by omega] at p3
  rw [e a h1, e b h2] at p0 p1 p2 p3
  have l1 := a[k].toNat_lt
  have l2 := b[k].toNat_lt
  apply UInt8.toNat_inj.1
  simp only [Nat.sub_zero, Nat.reduceSub, Nat.reducePow] at p0 p1 p2 p3
  omega
theorem ltB_t {a b : List UInt8} (ha : a.length = 16) (hb : b.length = 16) (hne : a ≠ b) : ltB (digs a) (digs b) 68 = true := by
  cases h : ltB (digs a) (digs b) 68 with
  | true => rfl
  | false =>
    have hge := ltB_f h
    have h64 : ∀ i, i < 64 → dg b i ≤ dg a i := fun i hi => by
      have := hge i (by omega)
      rwa [digs_dg a hi, digs_dg b hi] at this
    have hs := sm_le 64 h64
    obtain ⟨a0, a1, a2, a3⟩ := digs_ck a
    obtain ⟨b0, b1, b2, b3⟩ := digs_ck b
    have c0 := hge 64 (by omega)
    have c1 := hge 65 (by omega)
    have c2 := hge 66 (by omega)
    have c3 := hge 67 (by omega)
    rw [a0, b0] at c0
    rw [a1, b1] at c1
    rw [a2, b2] at c2
    rw [a3, b3] at c3
    have ra := sm_rng a 64
    have rb := sm_rng b 64
    exact absurd (dg_inj ha hb (hs.2 (by omega))) hne
theorem cross {a b : List UInt8} (ha : a.length = 16) (hb : b.length = 16) : (decide (a = b) || (ltB (digs a) (digs b) 68 && ltB (digs b) (digs a) 68)) = true := by
  by_cases h : a = b
  · simp [h]
  · rw [ltB_t ha hb h, ltB_t hb ha (Ne.symm h)]; simp
/-! ### signatures cut and mended -/
section
variable {s : List UInt8} {h i k : Int} {m : List UInt8}
theorem sgA_len (s : List UInt8) (h i : Int) (m : List UInt8) : (sgA s h i m).length = (Wi.int i).length + 16 * (68 + h.toNat) := by
  rw [sgA_eq, List.length_append, sgR_len]
end
end Si
end Go.Fw
end
