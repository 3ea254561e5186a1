/- A text of a proof over this seat: walks over the program's functions and the plain laws that they need. -/
import Derived.Test.YtefjpigmgmbghaaGuA
import Derived.Test.YtefjpigmgmbghaaFwC
set_option linter.all false
section
/-! a queue of changes -/
namespace Go.Fw.Gp
abbrev ix (xs : List Int) (s : Int) : Int := Gu.ixF (fun y => decide (s = y)) xs
/-- A set is good. -/
def gd (xs : List Int) (xb bs : List Bool) (s : Int) : Bool := (decide (0 ≤ ix xs s) && xb.getD (ix xs s).toNat false) && !bs.getD (ix xs s).toNat false
/-- What Valid returns. -/
def vl (xs : List Int) (xb : List Bool) (base : Int) (ch : List Int) : Int :=
  if ¬ (xb.length : Int) = xs.length then 1 else if (8 : Int) < ch.length then 4 else if ix xs base < 0 ∨ ch.any (fun c => decide (ix xs c < 0)) = true then 6 else 0
def opn (xs : List Int) (xb bs : List Bool) (base : Int) (ch : List Int) : Int :=
  if ¬ vl xs xb base ch = 0 then vl xs xb base ch else if ¬ (bs.length : Int) = xs.length then 1 else if gd xs xb bs base = false then 8 else 0
/-- Alone, the first k changes. -/
def alo (g : Int → Bool) (base : Int) (ch : List Int) : Nat → Int × List Int
  | 0 => (base, [])
  | k + 1 => if g (ior (alo g base ch k).1 (ch.getD k 0)) = true then (ior (alo g base ch k).1 (ch.getD k 0), (alo g base ch k).2 ++ [(k : Int)]) else alo g base ch k
def orr (ch : List Int) (s : Int) (a : Nat) : Nat → Int
  | 0 => s
  | k + 1 => ior (orr ch s a k) (ch.getD (a + k) 0)
def rng (a n : Nat) : List Int := (List.range n).map fun j => ((a + j : Nat) : Int)
def ask (xs : List Int) (base : Int) (A : List Int) (t : Int) : List Int := if (¬ t = base ∧ t ∉ A) ∧ 0 ≤ ix xs t then A ++ [t] else A
/-- A row of changes is taken by halves: what is there, what is taken, what was asked. -/
def row (g : Int → Bool) (xs : List Int) (base : Int) (ch : List Int) : Nat → Nat → Nat → Int × List Int × List Int → Int × List Int × List Int
  | 0, _, _, s => s
  | f + 1, a, n, s =>
    if g (orr ch s.1 a n) = true then (orr ch s.1 a n, s.2.1 ++ rng a n, ask xs base s.2.2 (orr ch s.1 a n))
    else if 1 < n then row g xs base ch f (a + n / 2) (n - n / 2) (row g xs base ch f a (n / 2) (s.1, s.2.1, ask xs base s.2.2 (orr ch s.1 a n)))
    else (s.1, s.2.1, ask xs base s.2.2 (orr ch s.1 a n))
def hlv (g : Int → Bool) (xs : List Int) (base : Int) (ch : List Int) : Int × List Int × List Int := row g xs base ch ch.length 0 ch.length (base, [], [])
/-- The bound. -/
def mst : Nat → Nat → Nat → Int
  | 0, _, _ => 0
  | f + 1, n, d => if n = 0 then 0 else if d = 0 ∨ n = 1 then 1 else
    ((List.range (n + 1)).filter fun j => decide (d - (n - n / 2) ≤ j ∧ j ≤ min d (n / 2))).foldl (fun m j => max m (1 + mst f (n / 2) j + mst f (n - n / 2) (d - j))) 1
/-- The reference's bound. -/
def rms : Nat → Nat → Nat → Int
  | 0, _, _ => 0
  | f + 1, n, d => if n = 0 then 0 else if d = 0 ∨ n = 1 then 1 else
    1 + ((List.range (d + 1)).filter fun j => decide (j ≤ n / 2 ∧ d - j ≤ n - n / 2)).foldl (fun m j => max m (rms f (n / 2) j + rms f (n - n / 2) (d - j))) 0
/-- Shares, the first k. -/
def shr (base : Int) (known asked : List Int) : Nat → List Int
  | 0 => []
  | k + 1 => if (¬ asked.getD k 0 = base ∧ asked.getD k 0 ∉ known) ∧ asked.getD k 0 ∉ shr base known asked k then shr base known asked k ++ [asked.getD k 0] else shr base known asked k
/-- Taken changes are in order. -/
def tkB (taken : List Int) (n : Nat) : Bool := (List.range taken.length).all fun i => decide ((0 ≤ taken.getD i 0 ∧ taken.getD i 0 < n) ∧ (0 < i → taken.getD (i - 1) 0 < taken.getD i 0))
def cst (taken ch : List Int) (base : Int) : Nat → Int
  | 0 => base
  | k + 1 => if (k : Int) ∈ taken then ior (cst taken ch base k) (ch.getD k 0) else cst taken ch base k
def cbd (g : Int → Bool) (xs ch taken asked : List Int) (base : Int) (k : Nat) : Bool :=
  decide ((k : Int) ∉ taken) && (g (ior (cst taken ch base k) (ch.getD k 0)) || (decide (ior (cst taken ch base k) (ch.getD k 0) ∉ asked) && decide (0 ≤ ix xs (ior (cst taken ch base k) (ch.getD k 0)))))
/-- What Check says of a good start. -/
def chB (g : Int → Bool) (xs ch taken asked : List Int) (base : Int) : Bool :=
  tkB taken ch.length && ((List.range ch.length).all fun k => !cbd g xs ch taken asked base k) && (g (cst taken ch base ch.length) && (decide (cst taken ch base ch.length = base) || decide (cst taken ch base ch.length ∈ asked)))
def chk (xs : List Int) (xb bs : List Bool) (base : Int) (ch taken asked : List Int) : Int :=
  if ¬ opn xs xb bs base ch = 0 then opn xs xb bs base ch else if chB (gd xs xb bs) xs ch taken asked base = true then 0 else 17
end Go.Fw.Gp
end

section
namespace Go.Fw.Gp
section
variable {xs : List Int} {xb bs : List Bool} {base : Int} {ch : List Int} {g : Int → Bool}
/-- What Alone returns. -/
def aL (xs : List Int) (xb bs : List Bool) (base : Int) (ch : List Int) : List Int := if opn xs xb bs base ch = 0 then (alo (gd xs xb bs) base ch ch.length).2 else []
def aS (xs : List Int) (xb bs : List Bool) (base : Int) (ch : List Int) : Int := if opn xs xb bs base ch = 0 then (alo (gd xs xb bs) base ch ch.length).1 else 0
/-- What Halved returns. -/
def hT (xs : List Int) (xb bs : List Bool) (base : Int) (ch : List Int) : List Int := if opn xs xb bs base ch = 0 then (hlv (gd xs xb bs) xs base ch).2.1 else []
def hA (xs : List Int) (xb bs : List Bool) (base : Int) (ch : List Int) : List Int := if opn xs xb bs base ch = 0 then (hlv (gd xs xb bs) xs base ch).2.2 else []
end
end Go.Fw.Gp
end

section
namespace Go.Fw.Gp
section
variable {g : Int → Bool} {xs : List Int} {base : Int} {ch : List Int} {f a n : Nat} {s : Int} {T A : List Int}
theorem row_one (h : g (orr ch s a n) = false) (hn : ¬ 1 < n) : row g xs base ch (f + 1) a n (s, T, A) = (s, T, ask xs base A (orr ch s a n)) := by
  rw [row, if_neg (by rw [h]; decide), if_neg hn]
def Rg (l : List Int) : Prop := ∀ x ∈ l, -9223372036854775808 ≤ x ∧ x ≤ 9223372036854775807
end
end Go.Fw.Gp
namespace Go.Fw.Gp
end Go.Fw.Gp
end

section
namespace Go.Fw.Gp
/-- What a map of the known sets holds. -/
def KnOk (xs : List Int) (base : Int) (A : List Int) (es : List MapEntry) : Prop :=
  ∃ (ml : List (Int × Value)) (kb : Int → Bool), MpR vi ml es ∧ (∀ s, (aget ml s).getD (.bool false) = .bool (kb s)) ∧ ∀ s, 0 ≤ ix xs s → kb s = decide (s = base ∨ s ∈ A)
theorem KnOk.start {xs : List Int} {base : Int} {es : List MapEntry} (h : MpR vi (aset base (.bool true) []) es) : KnOk xs base [] es := by
  refine ⟨_, fun s => decide (s = base), h, fun s => ?_, fun s _ => by simp⟩
  rw [aget_aset]
  by_cases e : s = base
  · rw [if_pos e]; dsimp only; rw [decide_eq_true e]; rfl
  · rw [if_neg e]; dsimp only; rw [decide_eq_false e]; rfl
theorem KnOk.step {xs : List Int} {base t : Int} {A : List Int} {ml : List (Int × Value)} {es : List MapEntry} {kb : Int → Bool} (h : MpR vi (aset t (.bool true) ml) es) (hB : ∀ s, (aget ml s).getD (.bool false) = .bool (kb s)) (hI : ∀ s, 0 ≤ ix xs s → kb s = decide (s = base ∨ s ∈ A)) : KnOk xs base (ask xs base A t) es := by
  refine ⟨_, fun s => if s = t then true else kb s, h, fun s => ?_, fun s hs => ?_⟩
  · rw [aget_aset]
    by_cases e : s = t
    · rw [if_pos e]; dsimp only; rw [if_pos e]; rfl
    · rw [if_neg e]; dsimp only; rw [if_neg e]; exact hB s
  · dsimp only
    by_cases e : s = t
    · subst e
      rw [if_pos rfl]
      symm
      rw [decide_eq_true_eq]
      unfold ask
      split
      · exact .inr (by simp)
      · rename_i hn
        by_cases h1 : s = base
        · exact .inl h1
        · by_cases h2 : s ∈ A
          · exact .inr h2
          · exact absurd ⟨⟨h1, h2⟩, hs⟩ hn
    · rw [if_neg e, hI s hs, decide_eq_decide]
      unfold ask
      split
      · rw [List.mem_append, List.mem_singleton]
        constructor
        · rintro (h | h)
          · exact .inl h
          · exact .inr (.inl h)
        · rintro (h | h | h)
          · exact .inl h
          · exact .inr h
          · exact absurd h e
      · exact Iff.rfl
end Go.Fw.Gp
namespace Go.Fw.Gp
end Go.Fw.Gp
end

section
namespace Go.Fw.Gp
def lst (taken : List Int) : Nat → Int
  | 0 => -1
  | k + 1 => taken.getD k 0
def tkC (taken : List Int) (n i : Nat) : Prop := (0 ≤ taken.getD i 0 ∧ taken.getD i 0 < n) ∧ (0 < i → taken.getD (i - 1) 0 < taken.getD i 0)
section
variable {taken asked ch xs : List Int} {xb bs : List Bool} {base : Int} {g : Int → Bool} {n i k : Nat}
/-- What Shares returns. -/
def sE (xs : List Int) (xb : List Bool) (base : Int) (ch asked known : List Int) : Int := if ¬ vl xs xb base ch = 0 then vl xs xb base ch else if asked.any (fun s => decide (ix xs s < 0)) = true ∨ known.any (fun s => decide (ix xs s < 0)) = true then 6 else 0
def sL (xs : List Int) (xb : List Bool) (base : Int) (ch asked known : List Int) : List Int := if sE xs xb base ch asked known = 0 then shr base known asked asked.length else []
end
end Go.Fw.Gp
end

section
/-! the bound -/
namespace Go.Fw.Gp
def pf (k i j : Nat) : Int := ((List.range j).filter fun j' => decide (i - (k - k / 2) ≤ j' ∧ j' ≤ min i (k / 2))).foldl (fun m j' => max m (1 + mst 8 (k / 2) j' + mst 8 (k - k / 2) (i - j'))) 1
def TabK (tab : List Int) (k : Nat) : Prop := tab.length = 81 ∧ ∀ k' i', k' < k → i' ≤ k' → tab.getD (k' * 9 + i') 0 = mst 9 k' i'
def TabI (tab : List Int) (k i : Nat) : Prop := TabK tab k ∧ ∀ i', i' < i → tab.getD (k * 9 + i') 0 = mst 9 k i'
theorem tab_set {tab : List Int} {c c' : Nat} {v : Int} (h : c ≠ c') : (tab.set c v).getD c' 0 = tab.getD c' 0 := by
  rw [List.getD_eq_getElem?_getD, List.getElem?_set_ne h, List.getD_eq_getElem?_getD]
theorem TabK.start : TabK (List.replicate 81 0) 1 := ⟨by simp, fun k' i' h1 h2 => by
  obtain rfl : k' = 0 := by omega
  obtain rfl : i' = 0 := by omega
  decide +kernel⟩
theorem TabI.start {tab : List Int} {k : Nat} (h : TabK tab k) : TabI tab k 0 := ⟨h, fun i' h => by omega⟩
theorem TabI.set {tab : List Int} {k i : Nat} {v : Int} (h : TabI tab k i) (hk : k ≤ 8) (hi : i ≤ k) : TabI (tab.set (k * 9 + i) v) k i :=
  ⟨⟨by rw [List.length_set]; exact h.1.1, fun k' i' h1 h2 => by rw [tab_set (by omega)]; exact h.1.2 k' i' h1 h2⟩, fun i' h1 => by rw [tab_set (by omega)]; exact h.2 i' h1⟩
theorem TabI.next {tab : List Int} {k i : Nat} (h : TabI tab k i) (e : tab.getD (k * 9 + i) 0 = mst 9 k i) : TabI tab k (i + 1) := ⟨h.1, fun i' h1 => by
  by_cases h2 : i' = i
  · subst h2; exact e
  · exact h.2 i' (by omega)⟩
theorem TabK.next {tab : List Int} {k : Nat} (h : TabI tab k (k + 1)) : TabK tab (k + 1) := ⟨h.1.1, fun k' i' h1 h2 => by
  by_cases h3 : k' = k
  · subst h3; exact h.2 i' (by omega)
  · exact h.1.2 k' i' (by omega) h2⟩
/-- What Most returns. -/
def moE (n d : Int) : Int := if ((n < 0 ∨ 8 < n) ∨ d < 0) ∨ n < d then 5 else 0
def moV (n d : Int) : Int := if ((n < 0 ∨ 8 < n) ∨ d < 0) ∨ n < d then 0 else mst 9 n.toNat d.toNat
end Go.Fw.Gp
namespace Go.Fw.Gp
end Go.Fw.Gp
end

section
/-! the examples -/
namespace Go.Fw.Gp
def lvS (k : Nat) : List Int := (List.range k).map fun (j : Nat) => (j : Int)
def lvB (k : Nat) : List Bool := (List.range k).map fun _ => true
def lvM (k : Nat) : List Bool := (List.range k).map fun (j : Nat) => decide (iand (j : Int) 5 = 5)
theorem lvS_len (k : Nat) : (lvS k).length = k := by simp [lvS]
theorem lvB_len (k : Nat) : (lvB k).length = k := by simp [lvB]
theorem lvM_len (k : Nat) : (lvM k).length = k := by simp [lvM]
theorem bit0 (i : Int) : Gu.bitB 0 i = false := by
  unfold Gu.bitB
  rw [Int.zero_ediv]
  decide
end Go.Fw.Gp
end
