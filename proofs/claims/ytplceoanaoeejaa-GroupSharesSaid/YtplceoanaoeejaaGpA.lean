/- A text of a proof over this seat: walks over the program's functions and the plain laws that they need. -/
import Derived.Test.YtplceoanaoeejaaGuA
import Derived.Test.YtplceoanaoeejaaFwC
set_option linter.all false
section
/-! a queue of changes -/
namespace Go.Fw.Gp
abbrev ix (xs : List Int) (s : Int) : Int := Gu.ixF (fun y => decide (s = y)) xs
/-- A set is good. -/
def gd (xs : List Int) (xb bs : List Bool) (s : Int) : Bool := (decide (0 ≤ ix xs s) && xb.getD (ix xs s).toNat false) && !bs.getD (ix xs s).toNat false
/-- What Valid returns. -/
def vl (xs : List Int) (xb : List Bool) (base : Int) (ch : List Int) : Int :=
  if ¬ (xb.length : Int) = xs.length then 1 else if (8 : Int) < ch.length then 4 else if ix xs base < 0 ∨ ch.any (fun c => decide (ix xs c < 0)) = true then 6 else 0
def opn (xs : List Int) (xb bs : List Bool) (base : Int) (ch : List Int) : Int :=
  if ¬ vl xs xb base ch = 0 then vl xs xb base ch else if ¬ (bs.length : Int) = xs.length then 1 else if gd xs xb bs base = false then 8 else 0
/-- Alone, the first k changes. -/
def alo (g : Int → Bool) (base : Int) (ch : List Int) : Nat → Int × List Int
  | 0 => (base, [])
  | k + 1 => if g (ior (alo g base ch k).1 (ch.getD k 0)) = true then (ior (alo g base ch k).1 (ch.getD k 0), (alo g base ch k).2 ++ [(k : Int)]) else alo g base ch k
def orr (ch : List Int) (s : Int) (a : Nat) : Nat → Int
  | 0 => s
  | k + 1 => ior (orr ch s a k) (ch.getD (a + k) 0)
def rng (a n : Nat) : List Int := (List.range n).map fun j => ((a + j : Nat) : Int)
def ask (xs : List Int) (base : Int) (A : List Int) (t : Int) : List Int := if (¬ t = base ∧ t ∉ A) ∧ 0 ≤ ix xs t then A ++ [t] else A
/-- A row of changes is taken by halves: what is there, what is taken, what was asked. -/
def row (g : Int → Bool) (xs : List Int) (base : Int) (ch : List Int) : Nat → Nat → Nat → Int × List Int × List Int → Int × List Int × List Int
  | 0, _, _, s => s
  | f + 1, a, n, s =>
    if g (orr ch s.1 a n) = true then (orr ch s.1 a n, s.2.1 ++ rng a n, ask xs base s.2.2 (orr ch s.1 a n))
    else if 1 < n then row g xs base ch f (a + n / 2) (n - n / 2) (row g xs base ch f a (n / 2) (s.1, s.2.1, ask xs base s.2.2 (orr ch s.1 a n)))
    else (s.1, s.2.1, ask xs base s.2.2 (orr ch s.1 a n))
def hlv (g : Int → Bool) (xs : List Int) (base : Int) (ch : List Int) : Int × List Int × List Int := row g xs base ch ch.length 0 ch.length (base, [], [])
/-- The bound. -/
def mst : Nat → Nat → Nat → Int
  | 0, _, _ => 0
  | f + 1, n, d => if n = 0 then 0 else if d = 0 ∨ n = 1 then 1 else
    ((List.range (n + 1)).filter fun j => decide (d - (n - n / 2) ≤ j ∧ j ≤ min d (n / 2))).foldl (fun m j => max m (1 + mst f (n / 2) j + mst f (n - n / 2) (d - j))) 1
/-- The reference's bound. -/
def rms : Nat → Nat → Nat → Int
  | 0, _, _ => 0
  | f + 1, n, d => if n = 0 then 0 else if d = 0 ∨ n = 1 then 1 else
    1 + ((List.range (d + 1)).filter fun j => decide (j ≤ n / 2 ∧ d - j ≤ n - n / 2)).foldl (fun m j => max m (rms f (n / 2) j + rms f (n - n / 2) (d - j))) 0
/-- Shares, the first k. -/
def shr (base : Int) (known asked : List Int) : Nat → List Int
  | 0 => []
  | k + 1 => if (¬ asked.getD k 0 = base ∧ asked.getD k 0 ∉ known) ∧ asked.getD k 0 ∉ shr base known asked k then shr base known asked k ++ [asked.getD k 0] else shr base known asked k
/-- Taken changes are in order. -/
def tkB (taken : List Int) (n : Nat) : Bool := (List.range taken.length).all fun i => decide ((0 ≤ taken.getD i 0 ∧ taken.getD i 0 < n) ∧ (0 < i → taken.getD (i - 1) 0 < taken.getD i 0))
def cst (taken ch : List Int) (base : Int) : Nat → Int
  | 0 => base
  | k + 1 => if (k : Int) ∈ taken then ior (cst taken ch base k) (ch.getD k 0) else cst taken ch base k
def cbd (g : Int → Bool) (xs ch taken asked : List Int) (base : Int) (k : Nat) : Bool :=
  decide ((k : Int) ∉ taken) && (g (ior (cst taken ch base k) (ch.getD k 0)) || (decide (ior (cst taken ch base k) (ch.getD k 0) ∉ asked) && decide (0 ≤ ix xs (ior (cst taken ch base k) (ch.getD k 0)))))
/-- What Check says of a good start. -/
def chB (g : Int → Bool) (xs ch taken asked : List Int) (base : Int) : Bool :=
  tkB taken ch.length && ((List.range ch.length).all fun k => !cbd g xs ch taken asked base k) && (g (cst taken ch base ch.length) && (decide (cst taken ch base ch.length = base) || decide (cst taken ch base ch.length ∈ asked)))
def chk (xs : List Int) (xb bs : List Bool) (base : Int) (ch taken asked : List Int) : Int :=
  if ¬ opn xs xb bs base ch = 0 then opn xs xb bs base ch else if chB (gd xs xb bs) xs ch taken asked base = true then 0 else 17
end Go.Fw.Gp
end

section
namespace Go.Fw.Gp
section
variable {xs : List Int} {xb bs : List Bool} {base : Int} {ch : List Int} {g : Int → Bool}
theorem vl_0 (h : vl xs xb base ch = 0) : xb.length = xs.length ∧ ch.length ≤ 8 ∧ 0 ≤ ix xs base ∧ ∀ c ∈ ch, 0 ≤ ix xs c := by
  unfold vl at h
  split at h
  · cases h
  · split at h
    · cases h
    · split at h
      · cases h
      · rename_i h1 h2 h3
        refine ⟨by omega, by omega, by omega, fun c hc => ?_⟩
        have : ¬ ix xs c < 0 := fun hn => h3 (.inr (List.any_eq_true.2 ⟨c, hc, decide_eq_true hn⟩))
        omega
theorem opn_0 (h : opn xs xb bs base ch = 0) : vl xs xb base ch = 0 ∧ bs.length = xs.length ∧ gd xs xb bs base = true := by
  unfold opn at h
  split at h
  · exact absurd h ‹_›
  · split at h
    · cases h
    · split at h
      · cases h
      · rename_i h1 h2 h3
        exact ⟨by simpa using h1, by omega, by simpa using h3⟩
theorem alo_t {k : Nat} (h : g (ior (alo g base ch k).1 (ch.getD k 0)) = true) : alo g base ch (k + 1) = (ior (alo g base ch k).1 (ch.getD k 0), (alo g base ch k).2 ++ [(k : Int)]) := by rw [alo, if_pos h]
theorem alo_f {k : Nat} (h : g (ior (alo g base ch k).1 (ch.getD k 0)) = false) : alo g base ch (k + 1) = alo g base ch k := by rw [alo, if_neg (by rw [h]; decide)]
theorem alo_rng (g : Int → Bool) (base : Int) (ch : List Int) : ∀ k, (alo g base ch k).2.length ≤ k ∧ ∀ x ∈ (alo g base ch k).2, 0 ≤ x ∧ x < k
  | 0 => ⟨Nat.le_refl _, fun x hx => by cases hx⟩
  | k + 1 => by
    obtain ⟨h1, h2⟩ := alo_rng g base ch k
    cases h : g (ior (alo g base ch k).1 (ch.getD k 0)) with
    | true =>
      rw [alo_t h]
      refine ⟨by simpa using h1, fun x hx => ?_⟩
      rcases List.mem_append.1 hx with hx | hx
      · have := h2 x hx; omega
      · rw [List.mem_singleton.1 hx]; omega
    | false =>
      rw [alo_f h]
      exact ⟨by omega, fun x hx => by have := h2 x hx; omega⟩
/-- What Alone returns. -/
def aL (xs : List Int) (xb bs : List Bool) (base : Int) (ch : List Int) : List Int := if opn xs xb bs base ch = 0 then (alo (gd xs xb bs) base ch ch.length).2 else []
def aS (xs : List Int) (xb bs : List Bool) (base : Int) (ch : List Int) : Int := if opn xs xb bs base ch = 0 then (alo (gd xs xb bs) base ch ch.length).1 else 0
/-- What Halved returns. -/
def hT (xs : List Int) (xb bs : List Bool) (base : Int) (ch : List Int) : List Int := if opn xs xb bs base ch = 0 then (hlv (gd xs xb bs) xs base ch).2.1 else []
def hA (xs : List Int) (xb bs : List Bool) (base : Int) (ch : List Int) : List Int := if opn xs xb bs base ch = 0 then (hlv (gd xs xb bs) xs base ch).2.2 else []
end
end Go.Fw.Gp
end

section
namespace Go.Fw.Gp
theorem wrap_rng (k : Int) : -9223372036854775808 ≤ IntKind.i64.wrap k ∧ IntKind.i64.wrap k ≤ 9223372036854775807 := by
  have e : IntKind.i64.wrap k = if k % 18446744073709551616 ≥ 9223372036854775808 then k % 18446744073709551616 - 18446744073709551616 else k % 18446744073709551616 := by simp [IntKind.wrap, IntKind.bits, IntKind.signed]
  rw [e]
  split <;> omega
theorem ior_rng (x y : Int) : -9223372036854775808 ≤ ior x y ∧ ior x y ≤ 9223372036854775807 := wrap_rng _
section
variable {g : Int → Bool} {xs : List Int} {base : Int} {ch : List Int} {f a n : Nat} {s : Int} {T A : List Int}
theorem row_good (h : g (orr ch s a n) = true) : row g xs base ch (f + 1) a n (s, T, A) = (orr ch s a n, T ++ rng a n, ask xs base A (orr ch s a n)) := by rw [row, if_pos h]
theorem row_half (h : g (orr ch s a n) = false) (hn : 1 < n) : row g xs base ch (f + 1) a n (s, T, A) = row g xs base ch f (a + n / 2) (n - n / 2) (row g xs base ch f a (n / 2) (s, T, ask xs base A (orr ch s a n))) := by
  rw [row, if_neg (by rw [h]; decide), if_pos hn]
theorem row_one (h : g (orr ch s a n) = false) (hn : ¬ 1 < n) : row g xs base ch (f + 1) a n (s, T, A) = (s, T, ask xs base A (orr ch s a n)) := by
  rw [row, if_neg (by rw [h]; decide), if_neg hn]
theorem rng_succ (a k : Nat) : rng a (k + 1) = rng a k ++ [((a + k : Nat) : Int)] := by simp [rng, List.range_succ]
theorem rng_len (a n : Nat) : (rng a n).length = n := by simp [rng]
theorem rng_mem {a n : Nat} {x : Int} (h : x ∈ rng a n) : (a : Int) ≤ x ∧ x < a + n := by
  unfold rng at h
  obtain ⟨j, hj, rfl⟩ := List.mem_map.1 h
  have := List.mem_range.1 hj
  omega
theorem orr_rng (hn : 1 ≤ n) : -9223372036854775808 ≤ orr ch s a n ∧ orr ch s a n ≤ 9223372036854775807 := by
  obtain ⟨m, rfl⟩ : ∃ m, n = m + 1 := ⟨n - 1, by omega⟩
  exact ior_rng _ _
def Rg (l : List Int) : Prop := ∀ x ∈ l, -9223372036854775808 ≤ x ∧ x ≤ 9223372036854775807
theorem ask_len (xs : List Int) (base : Int) (A : List Int) (t : Int) : (ask xs base A t).length ≤ A.length + 1 := by
  unfold ask
  split
  · rw [List.length_append]; simp
  · omega
theorem ask_rg {t : Int} (hA : Rg A) (ht : -9223372036854775808 ≤ t ∧ t ≤ 9223372036854775807) : Rg (ask xs base A t) := by
  unfold ask
  split
  · intro x hx
    rcases List.mem_append.1 hx with hx | hx
    · exact hA x hx
    · rw [List.mem_singleton.1 hx]; exact ht
  · exact hA
theorem row_bd (g : Int → Bool) (xs : List Int) (base : Int) (ch : List Int) : ∀ (f a n : Nat) (σ : Int × List Int × List Int), 1 ≤ n → n ≤ f → a + n ≤ 1000 → Rg σ.2.1 → Rg σ.2.2 →
    (row g xs base ch f a n σ).2.1.length ≤ σ.2.1.length + n ∧ (row g xs base ch f a n σ).2.2.length + 1 ≤ σ.2.2.length + 2 * n ∧ Rg (row g xs base ch f a n σ).2.1 ∧ Rg (row g xs base ch f a n σ).2.2
  | 0, _, n, _, h1, h2, _, _, _ => by omega
  | f + 1, a, n, (s, T, A), h1, h2, h3, hT, hA => by
    have hal := ask_len xs base A (orr ch s a n)
    have har : Rg (ask xs base A (orr ch s a n)) := ask_rg hA (orr_rng h1)
    cases hg : g (orr ch s a n) with
    | true =>
      rw [row_good hg]
      refine ⟨by simp [rng_len], by show _ + 1 ≤ _; dsimp only; omega, ?_, har⟩
      intro x hx
      rcases List.mem_append.1 hx with hx | hx
      · exact hT x hx
      · have := rng_mem hx; omega
    | false =>
      by_cases hn : 1 < n
      · rw [row_half hg hn]
        obtain ⟨b1, b2, b3, b4⟩ := row_bd g xs base ch f a (n / 2) (s, T, ask xs base A (orr ch s a n)) (by omega) (by omega) (by omega) hT har
        obtain ⟨c1, c2, c3, c4⟩ := row_bd g xs base ch f (a + n / 2) (n - n / 2) _ (by omega) (by omega) (by omega) b3 b4
        dsimp only at b1 b2 c1 c2 ⊢
        exact ⟨by omega, by omega, c3, c4⟩
      · rw [row_one hg hn]
        dsimp only
        exact ⟨by omega, by omega, hT, har⟩
end
end Go.Fw.Gp
namespace Go.Fw.Gp
theorem hlv_nil {g : Int → Bool} {xs : List Int} {base : Int} {ch : List Int} (h : ch.length = 0) : hlv g xs base ch = (base, [], []) := by
  unfold hlv
  rw [h]
  rfl
end Go.Fw.Gp
end

section
namespace Go.Fw.Gp
/-- What a map of the known sets holds. -/
def KnOk (xs : List Int) (base : Int) (A : List Int) (es : List MapEntry) : Prop :=
  ∃ (ml : List (Int × Value)) (kb : Int → Bool), MpR vi ml es ∧ (∀ s, (aget ml s).getD (.bool false) = .bool (kb s)) ∧ ∀ s, 0 ≤ ix xs s → kb s = decide (s = base ∨ s ∈ A)
theorem KnOk.start {xs : List Int} {base : Int} {es : List MapEntry} (h : MpR vi (aset base (.bool true) []) es) : KnOk xs base [] es := by
  refine ⟨_, fun s => decide (s = base), h, fun s => ?_, fun s _ => by simp⟩
  rw [aget_aset]
  by_cases e : s = base
  · rw [if_pos e]; dsimp only; rw [decide_eq_true e]; rfl
  · rw [if_neg e]; dsimp only; rw [decide_eq_false e]; rfl
theorem ask_t {xs : List Int} {base t : Int} {A : List Int} {kb : Int → Bool} (h : kb t = false) (h0 : 0 ≤ ix xs t) (hI : ∀ s, 0 ≤ ix xs s → kb s = decide (s = base ∨ s ∈ A)) : A ++ [t] = ask xs base A t := by
  rw [hI t h0, decide_eq_false_iff_not] at h
  unfold ask
  rw [if_pos ⟨⟨fun e => h (.inl e), fun e => h (.inr e)⟩, h0⟩]
theorem ask_f {xs : List Int} {base t : Int} {A : List Int} {kb : Int → Bool} (h : kb t = true ∨ ¬ 0 ≤ ix xs t) (hI : ∀ s, 0 ≤ ix xs s → kb s = decide (s = base ∨ s ∈ A)) : A = ask xs base A t := by
  unfold ask
  rw [if_neg]
  rintro ⟨⟨h1, h2⟩, h3⟩
  rcases h with h | h
  · rw [hI t h3, decide_eq_true_eq] at h
    rcases h with h | h
    · exact h1 h
    · exact h2 h
  · exact h h3
theorem KnOk.step {xs : List Int} {base t : Int} {A : List Int} {ml : List (Int × Value)} {es : List MapEntry} {kb : Int → Bool} (h : MpR vi (aset t (.bool true) ml) es) (hB : ∀ s, (aget ml s).getD (.bool false) = .bool (kb s)) (hI : ∀ s, 0 ≤ ix xs s → kb s = decide (s = base ∨ s ∈ A)) : KnOk xs base (ask xs base A t) es := by
  refine ⟨_, fun s => if s = t then true else kb s, h, fun s => ?_, fun s hs => ?_⟩
  · rw [aget_aset]
    by_cases e : s = t
    · rw [if_pos e]; dsimp only; rw [if_pos e]; rfl
    · rw [if_neg e]; dsimp only; rw [if_neg e]; exact hB s
  · dsimp only
    by_cases e : s = t
    · subst e
      rw [if_pos rfl]
      symm
      rw [decide_eq_true_eq]
      unfold ask
      split
      · exact .inr (by simp)
      · rename_i hn
        by_cases h1 : s = base
        · exact .inl h1
        · by_cases h2 : s ∈ A
          · exact .inr h2
          · exact absurd ⟨⟨h1, h2⟩, hs⟩ hn
    · rw [if_neg e, hI s hs, decide_eq_decide]
      unfold ask
      split
      · rw [List.mem_append, List.mem_singleton]
        constructor
        · rintro (h | h)
          · exact .inl h
          · exact .inr (.inl h)
        · rintro (h | h | h)
          · exact .inl h
          · exact .inr h
          · exact absurd h e
      · exact Iff.rfl
end Go.Fw.Gp
namespace Go.Fw.Gp
theorem cut_len {ch : List Int} {a n : Nat} (h : a + n ≤ ch.length) : ((ch.take (a + n)).drop a).length = n := by simp; omega
theorem cut_get {ch : List Int} {a n k : Nat} (h : a + n ≤ ch.length) (hk : k < n) : ((ch.take (a + n)).drop a).getD k 0 = ch.getD (a + k) 0 := by
  rw [List.getD_eq_getElem?_getD, List.getElem?_drop, List.getElem?_take, if_pos (by omega), List.getD_eq_getElem?_getD]
end Go.Fw.Gp
end

section
namespace Go.Fw.Gp
def lst (taken : List Int) : Nat → Int
  | 0 => -1
  | k + 1 => taken.getD k 0
def tkC (taken : List Int) (n i : Nat) : Prop := (0 ≤ taken.getD i 0 ∧ taken.getD i 0 < n) ∧ (0 < i → taken.getD (i - 1) 0 < taken.getD i 0)
section
variable {taken asked ch xs : List Int} {xb bs : List Bool} {base : Int} {g : Int → Bool} {n i k : Nat}
theorem tk_fail (hi : i < taken.length) (h : ¬ tkC taken n i) : tkB taken n = false := by
  unfold tkB
  rw [List.all_eq_false]
  exact ⟨i, List.mem_range.2 hi, by rw [decide_eq_true_eq]; exact h⟩
theorem tk_bad (hi : i < taken.length) (h : taken.getD i 0 ≤ lst taken i ∨ (n : Int) ≤ taken.getD i 0) : tkB taken n = false := tk_fail hi fun hc => by
  rcases h with h | h
  · cases i with
    | zero => have : lst taken 0 = -1 := rfl; have := hc.1.1; omega
    | succ i => have h2 := hc.2 (by omega); have e : lst taken (i + 1) = taken.getD i 0 := rfl; rw [Nat.add_sub_cancel] at h2; omega
  · have := hc.1.2; omega
theorem tk_step (hp : ∀ j, j < i → tkC taken n j) (h : lst taken i < taken.getD i 0 ∧ taken.getD i 0 < n) : tkC taken n i := by
  cases i with
  | zero => have e : lst taken 0 = -1 := rfl; exact ⟨⟨by omega, h.2⟩, fun h => by omega⟩
  | succ i =>
    have e : lst taken (i + 1) = taken.getD i 0 := rfl
    have := (hp i (by omega)).1.1
    exact ⟨⟨by omega, h.2⟩, fun _ => by rw [Nat.add_sub_cancel]; omega⟩
theorem tk_all (h : ∀ j, j < taken.length → tkC taken n j) : tkB taken n = true := by
  unfold tkB
  rw [List.all_eq_true]
  exact fun j hj => decide_eq_true (h j (List.mem_range.1 hj))
theorem cbd_t (h1 : (k : Int) ∉ taken) (h2 : g (ior (cst taken ch base k) (ch.getD k 0)) = true ∨ (ior (cst taken ch base k) (ch.getD k 0) ∉ asked ∧ 0 ≤ ix xs (ior (cst taken ch base k) (ch.getD k 0)))) : cbd g xs ch taken asked base k = true := by
  unfold cbd
  rw [decide_eq_true h1, Bool.true_and, Bool.or_eq_true]
  rcases h2 with h2 | h2
  · exact .inl h2
  · right; rw [decide_eq_true h2.1, decide_eq_true h2.2]; rfl
theorem cbd_f (h2 : g (ior (cst taken ch base k) (ch.getD k 0)) = false ∧ (ior (cst taken ch base k) (ch.getD k 0) ∈ asked ∨ ¬ 0 ≤ ix xs (ior (cst taken ch base k) (ch.getD k 0)))) : cbd g xs ch taken asked base k = false := by
  unfold cbd
  rw [h2.1, Bool.false_or]
  rcases h2.2 with h | h
  · rw [decide_eq_false (show ¬ _ ∉ asked from fun hn => hn h)]; simp
  · rw [decide_eq_false h]; simp
theorem cbd_in (h1 : (k : Int) ∈ taken) : cbd g xs ch taken asked base k = false := by
  unfold cbd
  rw [decide_eq_false (fun hn => hn h1)]
  rfl
theorem cst_in (h : (k : Int) ∈ taken) : cst taken ch base (k + 1) = ior (cst taken ch base k) (ch.getD k 0) := by rw [cst, if_pos h]
theorem cst_out (h : (k : Int) ∉ taken) : cst taken ch base (k + 1) = cst taken ch base k := by rw [cst, if_neg h]
theorem chk_e (h : ¬ opn xs xb bs base ch = 0) : chk xs xb bs base ch taken asked = opn xs xb bs base ch := by unfold chk; rw [if_pos h]
theorem chk_b (h : opn xs xb bs base ch = 0) (h2 : chB (gd xs xb bs) xs ch taken asked base = false) : chk xs xb bs base ch taken asked = 17 := by unfold chk; rw [if_neg (fun hn => hn h), if_neg (by rw [h2]; decide)]
theorem chk_t (h : opn xs xb bs base ch = 0) (h2 : chB (gd xs xb bs) xs ch taken asked base = true) : chk xs xb bs base ch taken asked = 0 := by unfold chk; rw [if_neg (fun hn => hn h), if_pos h2]
theorem chB_1 (h : tkB taken ch.length = false) : chB g xs ch taken asked base = false := by unfold chB; rw [h]; rfl
theorem chB_2 (hk : k < ch.length) (h : cbd g xs ch taken asked base k = true) : chB g xs ch taken asked base = false := by
  have : ((List.range ch.length).all fun k => !cbd g xs ch taken asked base k) = false := List.all_eq_false.2 ⟨k, List.mem_range.2 hk, by rw [h]; decide⟩
  unfold chB
  rw [this, Bool.and_false]
  rfl
theorem chB_3 (h : g (cst taken ch base ch.length) = false ∨ (¬ cst taken ch base ch.length = base ∧ cst taken ch base ch.length ∉ asked)) : chB g xs ch taken asked base = false := by
  unfold chB
  rcases h with h | h
  · rw [h]; simp
  · rw [decide_eq_false h.1, decide_eq_false h.2]; simp
theorem chB_4 (h1 : ∀ j, j < taken.length → tkC taken ch.length j) (h2 : ∀ j, j < ch.length → cbd g xs ch taken asked base j = false) (h3 : g (cst taken ch base ch.length) = true ∧ (cst taken ch base ch.length = base ∨ cst taken ch base ch.length ∈ asked)) : chB g xs ch taken asked base = true := by
  have e : ((List.range ch.length).all fun k => !cbd g xs ch taken asked base k) = true := List.all_eq_true.2 fun k hk => by rw [h2 k (List.mem_range.1 hk)]; rfl
  unfold chB
  rw [tk_all h1, e, h3.1]
  rcases h3.2 with h | h
  · rw [decide_eq_true h]; rfl
  · rw [decide_eq_true h]; simp
/-- What Shares returns. -/
def sE (xs : List Int) (xb : List Bool) (base : Int) (ch asked known : List Int) : Int := if ¬ vl xs xb base ch = 0 then vl xs xb base ch else if asked.any (fun s => decide (ix xs s < 0)) = true ∨ known.any (fun s => decide (ix xs s < 0)) = true then 6 else 0
def sL (xs : List Int) (xb : List Bool) (base : Int) (ch asked known : List Int) : List Int := if sE xs xb base ch asked known = 0 then shr base known asked asked.length else []
theorem shr_t (h : (¬ asked.getD k 0 = base ∧ asked.getD k 0 ∉ taken) ∧ asked.getD k 0 ∉ shr base taken asked k) : shr base taken asked (k + 1) = shr base taken asked k ++ [asked.getD k 0] := by rw [shr, if_pos h]
theorem shr_f (h : (asked.getD k 0 = base ∨ asked.getD k 0 ∈ taken) ∨ asked.getD k 0 ∈ shr base taken asked k) : shr base taken asked (k + 1) = shr base taken asked k := by
  rw [shr, if_neg]
  rintro ⟨⟨h1, h2⟩, h3⟩
  rcases h with (h | h) | h
  · exact h1 h
  · exact h2 h
  · exact h3 h
theorem shr_len (base : Int) (known asked : List Int) : ∀ k, (shr base known asked k).length ≤ k
  | 0 => Nat.le_refl _
  | k + 1 => by
    have := shr_len base known asked k
    rw [shr]
    split
    · rw [List.length_append]; simpa using this
    · omega
theorem shr_mem {base : Int} {known asked : List Int} : ∀ k, k ≤ asked.length → ∀ x ∈ shr base known asked k, x ∈ asked
  | 0, _, x, hx => by cases hx
  | k + 1, hk, x, hx => by
    rw [shr] at hx
    split at hx
    · rcases List.mem_append.1 hx with hx | hx
      · exact shr_mem k (by omega) x hx
      · rw [List.mem_singleton.1 hx]; exact Gu.getD_mem' (by omega)
    · exact shr_mem k (by omega) x hx
end
end Go.Fw.Gp
end

section
/-! the bound -/
namespace Go.Fw.Gp
theorem M_bd : ∀ k i : Fin 9, 0 ≤ mst 9 k.val i.val ∧ mst 9 k.val i.val ≤ 15 := by decide +kernel
theorem M_bd' {k i : Nat} (hk : k < 9) (hi : i < 9) : 0 ≤ mst 9 k i ∧ mst 9 k i ≤ 15 := M_bd ⟨k, hk⟩ ⟨i, hi⟩
theorem m89 : ∀ a j : Fin 5, mst 8 a.val j.val = mst 9 a.val j.val := by decide +kernel
theorem m89' {a j : Nat} (ha : a < 5) (hj : j < 5) : mst 8 a j = mst 9 a j := m89 ⟨a, ha⟩ ⟨j, hj⟩
theorem m_one {k i : Nat} (hk : 1 ≤ k) (h : i = 0 ∨ k = 1) : mst 9 k i = 1 := by
  rw [mst, if_neg (by omega), if_pos h]
def pf (k i j : Nat) : Int := ((List.range j).filter fun j' => decide (i - (k - k / 2) ≤ j' ∧ j' ≤ min i (k / 2))).foldl (fun m j' => max m (1 + mst 8 (k / 2) j' + mst 8 (k - k / 2) (i - j'))) 1
theorem pf_start {k i j : Nat} (h : j ≤ i - (k - k / 2)) : pf k i j = 1 := by
  unfold pf
  have : (List.range j).filter (fun j' => decide (i - (k - k / 2) ≤ j' ∧ j' ≤ min i (k / 2))) = [] := List.filter_eq_nil_iff.2 fun x hx => by
    have := List.mem_range.1 hx
    rw [decide_eq_true_eq]
    omega
  rw [this]
  rfl
theorem pf_step {k i j : Nat} (h : i - (k - k / 2) ≤ j ∧ j ≤ min i (k / 2)) : pf k i (j + 1) = max (pf k i j) (1 + mst 8 (k / 2) j + mst 8 (k - k / 2) (i - j)) := by
  unfold pf
  rw [List.range_succ, List.filter_append, List.foldl_append]
  have : [j].filter (fun j' => decide (i - (k - k / 2) ≤ j' ∧ j' ≤ min i (k / 2))) = [j] := by rw [List.filter_cons, if_pos (decide_eq_true h), List.filter_nil]
  rw [this]
  rfl
theorem pf_stay {k i j : Nat} (h : min i (k / 2) < j) : pf k i (j + 1) = pf k i j := by
  unfold pf
  rw [List.range_succ, List.filter_append, List.foldl_append]
  have : [j].filter (fun j' => decide (i - (k - k / 2) ≤ j' ∧ j' ≤ min i (k / 2))) = [] := by rw [List.filter_cons, if_neg (by rw [decide_eq_true_eq]; omega), List.filter_nil]
  rw [this]
  rfl
theorem pf_far {k i j : Nat} (h : min i (k / 2) < j) : ∀ d, pf k i (j + d) = pf k i j
  | 0 => rfl
  | d + 1 => by rw [← Nat.add_assoc, pf_stay (by omega), pf_far h d]
theorem pf_end {k i j : Nat} (hk : 2 ≤ k) (hi : 1 ≤ i) (h : min i (k / 2) < j) (hj : j ≤ k + 1) : pf k i j = mst 9 k i := by
  rw [mst, if_neg (by omega), if_neg (by omega)]
  rw [← pf_far h (k + 1 - j), show j + (k + 1 - j) = k + 1 by omega]
  rfl
def TabK (tab : List Int) (k : Nat) : Prop := tab.length = 81 ∧ ∀ k' i', k' < k → i' ≤ k' → tab.getD (k' * 9 + i') 0 = mst 9 k' i'
def TabI (tab : List Int) (k i : Nat) : Prop := TabK tab k ∧ ∀ i', i' < i → tab.getD (k * 9 + i') 0 = mst 9 k i'
theorem tab_set {tab : List Int} {c c' : Nat} {v : Int} (h : c ≠ c') : (tab.set c v).getD c' 0 = tab.getD c' 0 := by
  rw [List.getD_eq_getElem?_getD, List.getElem?_set_ne h, List.getD_eq_getElem?_getD]
theorem tab_set' {tab : List Int} {c : Nat} {v : Int} (h : c < tab.length) : (tab.set c v).getD c 0 = v := by
  rw [List.getD_eq_getElem?_getD, List.getElem?_set_self h]; rfl
theorem TabK.start : TabK (List.replicate 81 0) 1 := ⟨by simp, fun k' i' h1 h2 => by
  obtain rfl : k' = 0 := by omega
  obtain rfl : i' = 0 := by omega
  decide +kernel⟩
theorem TabI.start {tab : List Int} {k : Nat} (h : TabK tab k) : TabI tab k 0 := ⟨h, fun i' h => by omega⟩
theorem TabI.set {tab : List Int} {k i : Nat} {v : Int} (h : TabI tab k i) (hk : k ≤ 8) (hi : i ≤ k) : TabI (tab.set (k * 9 + i) v) k i :=
  ⟨⟨by rw [List.length_set]; exact h.1.1, fun k' i' h1 h2 => by rw [tab_set (by omega)]; exact h.1.2 k' i' h1 h2⟩, fun i' h1 => by rw [tab_set (by omega)]; exact h.2 i' h1⟩
theorem TabI.next {tab : List Int} {k i : Nat} (h : TabI tab k i) (e : tab.getD (k * 9 + i) 0 = mst 9 k i) : TabI tab k (i + 1) := ⟨h.1, fun i' h1 => by
  by_cases h2 : i' = i
  · subst h2; exact e
  · exact h.2 i' (by omega)⟩
theorem TabK.next {tab : List Int} {k : Nat} (h : TabI tab k (k + 1)) : TabK tab (k + 1) := ⟨h.1.1, fun k' i' h1 h2 => by
  by_cases h3 : k' = k
  · subst h3; exact h.2 i' (by omega)
  · exact h.1.2 k' i' (by omega) h2⟩
/-- What Most returns. -/
def moE (n d : Int) : Int := if ((n < 0 ∨ 8 < n) ∨ d < 0) ∨ n < d then 5 else 0
def moV (n d : Int) : Int := if ((n < 0 ∨ 8 < n) ∨ d < 0) ∨ n < d then 0 else mst 9 n.toNat d.toNat
end Go.Fw.Gp
namespace Go.Fw.Gp
theorem most_in {tab : List Int} {k i j : Nat} {v : Int} (h : TabI tab k i) (hk : 2 ≤ k ∧ k ≤ 8) (hi : i ≤ k) (hj : i - (k - k / 2) ≤ j ∧ j ≤ min i (k / 2)) (hp : tab.getD (k * 9 + i) 0 = pf k i j) (hb : 0 ≤ tab.getD (k * 9 + i) 0 ∧ tab.getD (k * 9 + i) 0 ≤ 31)
    (hv : v = max (tab.getD (k * 9 + i) 0) (1 + tab.getD (k / 2 * 9 + j) 0 + tab.getD ((k - k / 2) * 9 + (i - j)) 0)) : TabI (tab.set (k * 9 + i) v) k i ∧ (tab.set (k * 9 + i) v).getD (k * 9 + i) 0 = pf k i (j + 1) ∧ 0 ≤ (tab.set (k * 9 + i) v).getD (k * 9 + i) 0 ∧ (tab.set (k * 9 + i) v).getD (k * 9 + i) 0 ≤ 31 := by
  have hA := h.1.2 (k / 2) j (by omega) (by omega)
  have hB := h.1.2 (k - k / 2) (i - j) (by omega) (by omega)
  have hA9 := M_bd' (k := k / 2) (i := j) (by omega) (by omega)
  have hB9 := M_bd' (k := k - k / 2) (i := i - j) (by omega) (by omega)
  have hl := h.1.1
  rw [hA, hB] at hv
  have hs : (tab.set (k * 9 + i) v).getD (k * 9 + i) 0 = v := tab_set' (by omega)
  refine ⟨h.set hk.2 hi, ?_, ?_, ?_⟩
  · rw [hs, pf_step hj, m89' (by omega) (by omega), m89' (by omega) (by omega), ← hp]
    exact hv
  · rw [hs]; omega
  · rw [hs]; omega
theorem most_0 {tab : List Int} {k i : Nat} (h : TabI tab k i) (hk : 2 ≤ k ∧ k ≤ 8) (hi : i ≤ k) : TabI (tab.set (k * 9 + i) 1) k i ∧ (tab.set (k * 9 + i) 1).getD (k * 9 + i) 0 = pf k i (i - (k - k / 2)) ∧ 0 ≤ (tab.set (k * 9 + i) 1).getD (k * 9 + i) 0 ∧ (tab.set (k * 9 + i) 1).getD (k * 9 + i) 0 ≤ 31 := by
  have hl := h.1.1
  have hs : (tab.set (k * 9 + i) 1).getD (k * 9 + i) 0 = 1 := tab_set' (by omega)
  refine ⟨h.set hk.2 hi, by rw [hs, pf_start (Nat.le_refl _)], by rw [hs]; decide, by rw [hs]; decide⟩
theorem most_1 {tab : List Int} {k i : Nat} (h : TabI tab k i) (hk : 1 ≤ k ∧ k ≤ 8) (hi : i ≤ k) (h1 : i = 0 ∨ k = 1) : TabI (tab.set (k * 9 + i) 1) k (i + 1) := by
  have hl := h.1.1
  exact (h.set hk.2 hi).next (by rw [tab_set' (by omega), m_one hk.1 h1])
theorem most_2 {tab : List Int} {k i j : Nat} (h : TabI tab k i) (hk : 2 ≤ k) (hi : 1 ≤ i) (h1 : min i (k / 2) < j) (hj : j ≤ k + 1) (hp : tab.getD (k * 9 + i) 0 = pf k i j) : TabI tab k (i + 1) := h.next (by rw [hp, pf_end hk hi h1 hj])
theorem most_3 {tab : List Int} {k : Nat} {n d : Int} (h : TabK tab k) (hk : (k : Int) = n + 1) (hn : ((¬ n < 0 ∧ ¬ 8 < n) ∧ ¬ d < 0) ∧ ¬ n < d) : tab.getD (n.toNat * 9 + d.toNat) 0 = moV n d := by
  unfold moV
  rw [if_neg (by omega)]
  exact h.2 _ _ (by omega) (by omega)
end Go.Fw.Gp
end

section
/-! the examples -/
namespace Go.Fw.Gp
def lvS (k : Nat) : List Int := (List.range k).map fun (j : Nat) => (j : Int)
def lvB (k : Nat) : List Bool := (List.range k).map fun _ => true
def lvM (k : Nat) : List Bool := (List.range k).map fun (j : Nat) => decide (iand (j : Int) 5 = 5)
theorem lvS_succ (k : Nat) : lvS (k + 1) = lvS k ++ [(k : Int)] := by simp [lvS, List.range_succ]
theorem lvB_succ (k : Nat) : lvB (k + 1) = lvB k ++ [true] := by simp [lvB, List.range_succ]
theorem lvM_succ (k : Nat) : lvM (k + 1) = lvM k ++ [decide (iand (k : Int) 5 = 5)] := by simp [lvM, List.range_succ]
theorem lvS_len (k : Nat) : (lvS k).length = k := by simp [lvS]
theorem lvB_len (k : Nat) : (lvB k).length = k := by simp [lvB]
theorem lvM_len (k : Nat) : (lvM k).length = k := by simp [lvM]
theorem lvS_rng : ∀ x ∈ lvS 16, -9223372036854775808 ≤ x ∧ x ≤ 9223372036854775807 := by decide
theorem lv_open : opn (lvS 16) (lvB 16) (lvM 16) 0 [1, 2, 4, 8] = 0 := by decide +kernel
theorem lv_aL : aL (lvS 16) (lvB 16) (lvM 16) 0 [1, 2, 4, 8] = [0, 1, 3] := by decide +kernel
theorem lv_aS : aS (lvS 16) (lvB 16) (lvM 16) 0 [1, 2, 4, 8] = 11 := by decide +kernel
theorem lv_hT : hT (lvS 16) (lvB 16) (lvM 16) 0 [1, 2, 4, 8] = [0, 1, 3] := by decide +kernel
theorem lv_hA : hA (lvS 16) (lvB 16) (lvM 16) 0 [1, 2, 4, 8] = [15, 3, 7, 11] := by decide +kernel
theorem lv_sE : sE (lvS 16) (lvB 16) 0 [1, 2, 4, 8] [15, 3, 7, 11] [15, 7] = 0 := by decide +kernel
theorem lv_sL : sL (lvS 16) (lvB 16) 0 [1, 2, 4, 8] [15, 3, 7, 11] [15, 7] = [3, 11] := by decide +kernel
theorem lv_c0 : chk (lvS 16) (lvB 16) (lvM 16) 0 [1, 2, 4, 8] [0, 1, 3] [15, 3, 7, 11] = 0 := by decide +kernel
theorem lv_c1 : chk (lvS 16) (lvB 16) (lvM 16) 0 [1, 2, 4, 8] [0, 1, 3] [] = 17 := by decide +kernel
theorem lv_c2 : chk (lvS 16) (lvB 16) (lvM 16) 0 [1, 2, 4, 8] [0, 1, 3] [15, 3, 11] = 17 := by decide +kernel
theorem lv_m : moV 4 1 = 5 ∧ moE 4 1 = 0 ∧ moV 8 8 = 15 ∧ moE 8 8 = 0 := by decide +kernel
theorem bit0 (i : Int) : Gu.bitB 0 i = false := by
  unfold Gu.bitB
  rw [Int.zero_ediv]
  decide
end Go.Fw.Gp
end

section
/-! what row does: the sets it ends with, what it rejects, how much it asks -/
namespace Go.Fw.Gp
/-- The set behind the first k changes from a on, of which some are taken. -/
def cs (ch T : List Int) (s : Int) (a : Nat) : Nat → Int
  | 0 => s
  | k + 1 => if ((a + k : Nat) : Int) ∈ T then ior (cs ch T s a k) (ch.getD (a + k) 0) else cs ch T s a k
def fo (ch : List Int) (s x : Int) : Int := ior s (ch.getD x.toNat 0)
section
variable {ch T T' xs A : List Int} {s t base : Int} {a k m n : Nat} {g : Int → Bool}
theorem cs_congr : ∀ k, (∀ j, j < k → (((a + j : Nat) : Int) ∈ T ↔ ((a + j : Nat) : Int) ∈ T')) → cs ch T s a k = cs ch T' s a k
  | 0, _ => rfl
  | k + 1, h => by
    have ih := cs_congr k fun j hj => h j (by omega)
    have := h k (by omega)
    rw [cs, cs, ih]
    by_cases h1 : ((a + k : Nat) : Int) ∈ T
    · rw [if_pos h1, if_pos (this.1 h1)]
    · rw [if_neg h1, if_neg (fun h2 => h1 (this.2 h2))]
theorem cs_add : ∀ k, cs ch T s a (m + k) = cs ch T (cs ch T s a m) (a + m) k
  | 0 => rfl
  | k + 1 => by
    rw [← Nat.add_assoc, cs, cs, cs_add k, Nat.add_assoc a m k]
theorem cs_nil : ∀ k, cs ch [] s a k = s
  | 0 => rfl
  | k + 1 => by rw [cs, if_neg (by simp), cs_nil k]
theorem cs_all : ∀ k, (∀ j, j < k → ((a + j : Nat) : Int) ∈ T) → cs ch T s a k = orr ch s a k
  | 0, _ => rfl
  | k + 1, h => by rw [cs, if_pos (h k (by omega)), orr, cs_all k fun j hj => h j (by omega)]
theorem rng_in (h : k < n) : ((a + k : Nat) : Int) ∈ rng a n := by
  unfold rng
  exact List.mem_map.2 ⟨k, List.mem_range.2 h, rfl⟩
theorem rng_sorted (a : Nat) : ∀ n, (rng a n).Pairwise (fun x y => x < y)
  | 0 => List.Pairwise.nil
  | n + 1 => by
    rw [rng_succ]
    refine List.pairwise_append.2 ⟨rng_sorted a n, List.pairwise_singleton _ _, fun x hx y hy => ?_⟩
    rw [List.mem_singleton.1 hy]
    have := rng_mem hx
    omega
theorem rng_fold (a : Nat) : ∀ n, (rng a n).foldl (fo ch) s = orr ch s a n
  | 0 => rfl
  | n + 1 => by
    rw [rng_succ, List.foldl_append, rng_fold a n]
    show fo ch (orr ch s a n) ((a + n : Nat) : Int) = _
    unfold fo
    rw [Int.toNat_natCast]
    rfl
theorem cst_cs : ∀ k, cst T ch base k = cs ch T base 0 k
  | 0 => rfl
  | k + 1 => by rw [cst, cs, cst_cs k, Nat.zero_add]
theorem ask_sub {u : Int} (h : t ∈ A) : t ∈ ask xs base A u := by
  unfold ask
  split
  · exact List.mem_append_left _ h
  · exact h
theorem ask_in (h : 0 ≤ ix xs t) : t = base ∨ t ∈ ask xs base A t := by
  unfold ask
  split
  · exact .inr (by simp)
  · rename_i hn
    by_cases h1 : t = base
    · exact .inl h1
    · by_cases h2 : t ∈ A
      · exact .inr h2
      · exact absurd ⟨⟨h1, h2⟩, h⟩ hn
/-- What row does. -/
def RowS (g : Int → Bool) (xs : List Int) (base : Int) (ch : List Int) (a n : Nat) (s : Int) (A T2 A' : List Int) : Prop :=
  (∀ x ∈ A, x ∈ A') ∧ (∀ x ∈ T2, (a : Int) ≤ x ∧ x < a + n) ∧ T2.Pairwise (fun x y => x < y) ∧ g (cs ch T2 s a n) = true ∧ (cs ch T2 s a n = base ∨ cs ch T2 s a n ∈ A') ∧ T2.foldl (fo ch) s = cs ch T2 s a n ∧
    ∀ k, k < n → ((a + k : Nat) : Int) ∉ T2 → g (ior (cs ch T2 s a k) (ch.getD (a + k) 0)) = false ∧ (ior (cs ch T2 s a k) (ch.getD (a + k) 0) ∈ A' ∨ ¬ 0 ≤ ix xs (ior (cs ch T2 s a k) (ch.getD (a + k) 0)))
theorem row_spec (hb : g base = true) (hg : ∀ s, g s = true → 0 ≤ ix xs s) : ∀ (f a n : Nat) (s : Int) (T A : List Int), 1 ≤ n → n ≤ f → g s = true → (s = base ∨ s ∈ A) →
    ∃ T2 A', row g xs base ch f a n (s, T, A) = (cs ch T2 s a n, T ++ T2, A') ∧ RowS g xs base ch a n s A T2 A'
  | 0, _, n, _, _, _, h1, h2, _, _ => by omega
  | f + 1, a, n, s, T, A, h1, h2, hs, hsA => by
    cases hgt : g (orr ch s a n) with
    | true =>
      have e : cs ch (rng a n) s a n = orr ch s a n := cs_all n fun j hj => rng_in hj
      refine ⟨rng a n, _, by rw [row_good hgt, e], fun x hx => ask_sub hx, fun x hx => rng_mem hx, rng_sorted a n, by rw [e]; exact hgt, by rw [e]; exact ask_in (hg _ hgt), by rw [e]; exact rng_fold a n, fun k hk hn => absurd (rng_in hk) hn⟩
    | false =>
      by_cases hn : 1 < n
      · obtain ⟨T2, A2, e1, q1, q2, q3, q4, q5, q6, q7⟩ := row_spec hb hg f a (n / 2) s T (ask xs base A (orr ch s a n)) (by omega) (by omega) hs (hsA.imp id fun h => ask_sub h)
        obtain ⟨T3, A3, e2, r1, r2, r3, r4, r5, r6, r7⟩ := row_spec hb hg f (a + n / 2) (n - n / 2) (cs ch T2 s a (n / 2)) (T ++ T2) A2 (by omega) (by omega) q4 q5
        have c1 : ∀ k, k ≤ n / 2 → cs ch (T2 ++ T3) s a k = cs ch T2 s a k := fun k hk => cs_congr k fun j hj => by
          rw [List.mem_append]
          refine ⟨fun h => h.elim id fun h => ?_, .inl⟩
          have := r2 _ h
          omega
        have c2 : ∀ k, cs ch (T2 ++ T3) s a (n / 2 + k) = cs ch T3 (cs ch T2 s a (n / 2)) (a + n / 2) k := fun k => by
          rw [cs_add, c1 _ (Nat.le_refl _)]
          refine cs_congr k fun j hj => ?_
          rw [List.mem_append]
          refine ⟨fun h => h.elim (fun h => ?_) id, .inr⟩
          have := q2 _ h
          omega
        have c3 : cs ch (T2 ++ T3) s a n = cs ch T3 (cs ch T2 s a (n / 2)) (a + n / 2) (n - n / 2) := by
          have := c2 (n - n / 2)
          rwa [show n / 2 + (n - n / 2) = n by omega] at this
        refine ⟨T2 ++ T3, A3, by rw [row_half hgt hn, e1, e2, c3, List.append_assoc], fun x hx => r1 x (q1 x (ask_sub hx)), fun x hx => ?_, List.pairwise_append.2 ⟨q3, r3, fun x hx y hy => ?_⟩, by rw [c3]; exact r4, by rw [c3]; exact r5, by rw [List.foldl_append, q6, c3]; exact r6, fun k hk hkn => ?_⟩
        · rcases List.mem_append.1 hx with hx | hx
          · have := q2 x hx; omega
          · have := r2 x hx; omega
        · have := q2 x hx; have := r2 y hy; omega
        · rw [List.mem_append] at hkn
          by_cases hk2 : k < n / 2
          · rw [c1 k (by omega)]
            obtain ⟨h3, h4⟩ := q7 k hk2 fun h => hkn (.inl h)
            exact ⟨h3, h4.imp (r1 _) id⟩
          · obtain ⟨d, rfl⟩ : ∃ d, k = n / 2 + d := ⟨k - n / 2, by omega⟩
            rw [c2 d, show a + (n / 2 + d) = a + n / 2 + d by omega]
            exact r7 d (by omega) fun h => hkn (.inr (by rwa [show a + (n / 2 + d) = a + n / 2 + d by omega]))
      · obtain rfl : n = 1 := by omega
        refine ⟨[], _, by rw [row_one hgt hn, cs_nil, List.append_nil], fun x hx => ask_sub hx, fun x hx => (by cases hx), List.Pairwise.nil, by rw [cs_nil]; exact hs, by rw [cs_nil]; exact hsA.imp id fun h => ask_sub h, by rw [cs_nil]; rfl, fun k hk _ => ?_⟩
        obtain rfl : k = 0 := by omega
        have e : ior (cs ch [] s a 0) (ch.getD (a + 0) 0) = orr ch s a 1 := rfl
        rw [e]
        refine ⟨hgt, ?_⟩
        by_cases h0 : 0 ≤ ix xs (orr ch s a 1)
        · rcases ask_in (A := A) (base := base) h0 with h | h
          · rw [h, hb] at hgt; cases hgt
          · exact .inl h
        · exact .inr h0
/-- All of Halved. -/
theorem hlv_spec (hb : g base = true) (hg : ∀ s, g s = true → 0 ≤ ix xs s) : RowS g xs base ch 0 ch.length base [] (hlv g xs base ch).2.1 (hlv g xs base ch).2.2 ∧ (hlv g xs base ch).1 = cs ch (hlv g xs base ch).2.1 base 0 ch.length := by
  by_cases h0 : ch.length = 0
  · rw [hlv_nil h0, h0]
    exact ⟨⟨fun x hx => hx, fun x hx => (by cases hx), List.Pairwise.nil, hb, .inl rfl, rfl, fun k hk => (by omega)⟩, rfl⟩
  · obtain ⟨T2, A', e, h⟩ := row_spec (ch := ch) hb hg ch.length 0 ch.length base [] [] (by omega) (Nat.le_refl _) hb (.inl rfl)
    rw [List.nil_append] at e
    unfold hlv
    rw [e]
    exact ⟨h, rfl⟩
end
end Go.Fw.Gp
end

section
/-! what the laws want of Halved -/
namespace Go.Fw.Gp
section
variable {xs T A : List Int} {xb M : List Bool} {B : Int} {C : List Int}
theorem gd_use {s : Int} (h : gd xs xb M s = true) : 0 ≤ ix xs s ∧ xb.getD (ix xs s).toNat false = true ∧ M.getD (ix xs s).toNat false = false := by
  unfold gd at h
  simp only [Bool.and_eq_true, decide_eq_true_eq, Bool.not_eq_true'] at h
  exact ⟨h.1.1, h.1.2, h.2⟩
theorem sorted_get : ∀ {l : List Int}, l.Pairwise (fun x y => x < y) → ∀ i, 0 < i → i < l.length → l.getD (i - 1) 0 < l.getD i 0 := fun {l} h i h0 hi => by
  rw [List.getD_eq_getElem?_getD, List.getD_eq_getElem?_getD, List.getElem?_eq_getElem hi, List.getElem?_eq_getElem (by omega)]
  exact List.pairwise_iff_getElem.1 h (i - 1) i (by omega) hi (by omega)
/-- Halved, of a good start. -/
theorem whole (ho : opn xs xb M B C = 0) (hT9 : T = hT xs xb M B C) (hA9 : A = hA xs xb M B C) : (∀ k, k < T.length → tkC T C.length k) ∧ gd xs xb M (T.foldl (fo C) B) = true ∧ chk xs xb M B C T A = 0 := by
  have hb := (opn_0 ho).2.2
  obtain ⟨hr, -⟩ := hlv_spec (g := gd xs xb M) (xs := xs) (ch := C) hb fun s hs => (gd_use hs).1
  have eT : hT xs xb M B C = (hlv (gd xs xb M) xs B C).2.1 := by unfold hT; rw [if_pos ho]
  have eA : hA xs xb M B C = (hlv (gd xs xb M) xs B C).2.2 := by unfold hA; rw [if_pos ho]
  rw [← eT, ← eA, ← hT9, ← hA9] at hr
  obtain ⟨-, q2, q3, q4, q5, q6, q7⟩ := hr
  have htk : ∀ k, k < T.length → tkC T C.length k := fun k hk => by
    have := q2 _ (Gu.getD_mem' hk)
    exact ⟨⟨by omega, by omega⟩, fun h0 => sorted_get q3 k h0 hk⟩
  refine ⟨htk, by rw [q6]; exact q4, chk_t ho (chB_4 htk (fun k hk => ?_) (by rw [cst_cs]; exact ⟨q4, q5⟩))⟩
  by_cases hin : (k : Int) ∈ T
  · exact cbd_in hin
  · have := q7 k hk (by rwa [Nat.zero_add])
    rw [Nat.zero_add] at this
    exact cbd_f (by rw [cst_cs]; exact this)
end
end Go.Fw.Gp
end

section
/-! how much Halved asks -/
namespace Go.Fw.Gp
section
variable {ch T xs A : List Int} {s t base : Int} {a k m n : Nat} {g : Int → Bool}
end
section
variable {xs T A : List Int} {xb M : List Bool} {B : Int} {C : List Int}
end
end Go.Fw.Gp
namespace Go.Fw.Gp
end Go.Fw.Gp
namespace Go.Fw.Gp
theorem rg_app {F : List Int} {a c : Int} (hF : ∀ x ∈ F, a ≤ x ∧ x ≤ c) {v : Int} (hv : a ≤ v ∧ v ≤ c) : ∀ x ∈ F ++ [v], a ≤ x ∧ x ≤ c := fun x hx => by
  rcases List.mem_append.1 hx with h | h
  · exact hF x h
  · rw [List.mem_singleton.1 h]; exact hv
end Go.Fw.Gp
namespace Go.Fw.Gp
theorem hAT_len (xs : List Int) (xb M : List Bool) (B : Int) (C : List Int) : (hT xs xb M B C).length ≤ 8 ∧ (hA xs xb M B C).length ≤ 16 ∧ Rg (hT xs xb M B C) ∧ Rg (hA xs xb M B C) := by
  unfold hT hA
  by_cases ho : opn xs xb M B C = 0
  · rw [if_pos ho, if_pos ho]
    have h8 := (vl_0 (opn_0 ho).1).2.1
    by_cases h0 : C.length = 0
    · rw [hlv_nil h0]
      exact ⟨by simp, by simp, fun x h => (by cases h), fun x h => (by cases h)⟩
    · have := row_bd (gd xs xb M) xs B C C.length 0 C.length (B, [], []) (by omega) (by omega) (by omega) (fun x h => by cases h) (fun x h => by cases h)
      dsimp only [List.length_nil] at this
      unfold hlv
      exact ⟨by omega, by omega, this.2.2.1, this.2.2.2⟩
  · rw [if_neg ho, if_neg ho]
    exact ⟨by simp, by simp, fun x h => (by cases h), fun x h => (by cases h)⟩
end Go.Fw.Gp
end

section
/-! the reference's bound; what Shares shares -/
namespace Go.Fw.Gp
def rpf (n d i : Nat) : Int := ((List.range i).filter fun j => decide (j ≤ n / 2 ∧ d - j ≤ n - n / 2)).foldl (fun m j => max m (mst 9 (n / 2) j + mst 9 (n - n / 2) (d - j))) 0
theorem rpf_all : ∀ n d : Fin 9, 2 ≤ n.val → 1 ≤ d.val → d.val ≤ n.val → 1 + rpf n.val d.val (d.val + 1) = mst 9 n.val d.val := by decide +kernel
theorem rpf_all' {n d : Nat} (hn : 2 ≤ n ∧ n ≤ 8) (h1 : 1 ≤ d) (h2 : d ≤ n) : 1 + rpf n d (d + 1) = mst 9 n d := rpf_all ⟨n, by omega⟩ ⟨d, by omega⟩ hn.1 h1 h2
theorem rpf_t {n d i : Nat} (h : i ≤ n / 2 ∧ d - i ≤ n - n / 2) : rpf n d (i + 1) = max (rpf n d i) (mst 9 (n / 2) i + mst 9 (n - n / 2) (d - i)) := by
  unfold rpf
  rw [List.range_succ, List.filter_append, List.foldl_append]
  have : [i].filter (fun j => decide (j ≤ n / 2 ∧ d - j ≤ n - n / 2)) = [i] := by rw [List.filter_cons, if_pos (decide_eq_true h), List.filter_nil]
  rw [this]
  rfl
theorem rpf_f {n d i : Nat} (h : ¬ (i ≤ n / 2 ∧ d - i ≤ n - n / 2)) : rpf n d (i + 1) = rpf n d i := by
  unfold rpf
  rw [List.range_succ, List.filter_append, List.foldl_append]
  have : [i].filter (fun j => decide (j ≤ n / 2 ∧ d - j ≤ n - n / 2)) = [] := by rw [List.filter_cons, if_neg (by rw [decide_eq_true_eq]; exact h), List.filter_nil]
  rw [this]
  rfl
theorem moE_0 {n d : Int} : moE n d = 0 ↔ (0 ≤ n ∧ n ≤ 8) ∧ 0 ≤ d ∧ d ≤ n := by
  unfold moE
  split
  · constructor
    · intro h; cases h
    · intro h; omega
  · constructor
    · intro _; omega
    · intro _; rfl
theorem moV_0 {n d : Int} (h : moE n d = 0) : moV n d = mst 9 n.toNat d.toNat := by
  have := moE_0.1 h
  unfold moV
  rw [if_neg (by omega)]
theorem rm_t {n d i : Int} (hn : 2 ≤ n ∧ n ≤ 8) (hi : 0 ≤ i ∧ i ≤ d) (h1 : moE (n / 2) i = 0) (h2 : moE (n - n / 2) (d - i) = 0) (hb : 0 ≤ rpf n.toNat d.toNat i.toNat ∧ rpf n.toNat d.toNat i.toNat ≤ 30) :
    rpf n.toNat d.toNat (i + 1).toNat = max (rpf n.toNat d.toNat i.toNat) (moV (n / 2) i + moV (n - n / 2) (d - i)) ∧ 0 ≤ rpf n.toNat d.toNat (i + 1).toNat ∧ rpf n.toNat d.toNat (i + 1).toNat ≤ 30 := by
  have e1 := moE_0.1 h1
  have e2 := moE_0.1 h2
  rw [moV_0 h1, moV_0 h2, show (i + 1).toNat = i.toNat + 1 by omega, rpf_t (by omega), show (n / 2).toNat = n.toNat / 2 by omega, show (n - n / 2).toNat = n.toNat - n.toNat / 2 by omega, show (d - i).toNat = d.toNat - i.toNat by omega]
  have b1 := M_bd' (k := n.toNat / 2) (i := i.toNat) (by omega) (by omega)
  have b2 := M_bd' (k := n.toNat - n.toNat / 2) (i := d.toNat - i.toNat) (by omega) (by omega)
  refine ⟨rfl, by omega, by omega⟩
theorem rm_f {n d i : Int} (hn : 2 ≤ n ∧ n ≤ 8) (hi : 0 ≤ i ∧ i ≤ d) (h : ¬ moE (n / 2) i = 0 ∨ ¬ moE (n - n / 2) (d - i) = 0) : rpf n.toNat d.toNat (i + 1).toNat = rpf n.toNat d.toNat i.toNat := by
  rw [show (i + 1).toNat = i.toNat + 1 by omega]
  refine rpf_f fun h3 => ?_
  rcases h with h | h
  · exact h (moE_0.2 (by omega))
  · exact h (moE_0.2 (by omega))
theorem moE_v {n d : Int} (h : ((n < 0 ∨ 8 < n) ∨ d < 0) ∨ n < d) : moE n d = 5 ∧ moV n d = 0 := by
  unfold moE moV
  rw [if_pos h, if_pos h]
  exact ⟨rfl, rfl⟩
theorem moE_k {n d : Int} (h : ((¬ n < 0 ∧ ¬ 8 < n) ∧ ¬ d < 0) ∧ ¬ n < d) : moE n d = 0 := moE_0.2 (by omega)
theorem moB {n d : Int} : 0 ≤ moV n d ∧ moV n d ≤ 15 := by
  unfold moV
  split
  · decide
  · exact M_bd' (by omega) (by omega)
theorem rm_one {n d : Int} (h : moE n d = 0) (h0 : ¬ n = 0) (h1 : d = 0 ∨ n = 1) : moV n d = 1 := by
  have := moE_0.1 h
  rw [moV_0 h, m_one (by omega) (by omega)]
theorem rm_zero {d : Int} (h : moE 0 d = 0) : moV 0 d = 0 := by
  have := moE_0.1 h
  obtain rfl : d = 0 := by omega
  decide
theorem rm_end {n d i : Int} (h : moE n d = 0) (hn : 2 ≤ n) (hd : 1 ≤ d) (hi : i = d + 1) : 1 + rpf n.toNat d.toNat i.toNat = moV n d := by
  have := moE_0.1 h
  rw [moV_0 h, hi, show (d + 1).toNat = d.toNat + 1 by omega]
  exact rpf_all' (by omega) (by omega) (by omega)
/-! ### Shares -/
theorem shr_iff {base : Int} {known asked : List Int} : ∀ k, k ≤ asked.length → ∀ x, x ∈ shr base known asked k ↔ (x ∈ asked.take k ∧ (¬ x = base ∧ x ∉ known))
  | 0, _, x => by simp [shr]
  | k + 1, hk, x => by
    have ih := shr_iff (base := base) (known := known) (asked := asked) k (by omega) x
    rw [Gu.take_snoc' (l := asked) (k := k) (by omega), List.mem_append, List.mem_singleton, shr]
    split
    · rename_i h
      rw [List.mem_append, List.mem_singleton, ih]
      constructor
      · rintro (⟨h1, h2⟩ | h1)
        · exact ⟨.inl h1, h2⟩
        · exact ⟨.inr h1, h1 ▸ h.1⟩
      · rintro ⟨h1 | h1, h2⟩
        · exact .inl ⟨h1, h2⟩
        · exact .inr h1
    · rename_i h
      rw [ih]
      constructor
      · rintro ⟨h1, h2⟩
        exact ⟨.inl h1, h2⟩
      · rintro ⟨h1 | h1, h2⟩
        · exact ⟨h1, h2⟩
        · subst h1
          have h3 : asked.getD k 0 ∈ shr base known asked k := Classical.byContradiction fun h4 => h ⟨h2, h4⟩
          exact (shr_iff (asked := asked) k (by omega) _).1 h3
section
variable {xs : List Int} {xb : List Bool} {base : Int} {ch asked known more : List Int}
theorem sL_known {x : Int} (h : x ∈ sL xs xb base ch asked known) : x ∉ known := by
  unfold sL at h
  split at h
  · exact ((shr_iff _ (Nat.le_refl _) x).1 h).2.2
  · cases h
theorem sE_more (hm : ∀ x ∈ more, x ∈ asked) : sE xs xb base ch asked (known ++ more) = sE xs xb base ch asked known := by
  unfold sE
  have : (asked.any (fun s => decide (ix xs s < 0)) = true ∨ (known ++ more).any (fun s => decide (ix xs s < 0)) = true) ↔ (asked.any (fun s => decide (ix xs s < 0)) = true ∨ known.any (fun s => decide (ix xs s < 0)) = true) := by
    rw [List.any_append, Bool.or_eq_true]
    constructor
    · rintro (h | h | h)
      · exact .inl h
      · exact .inr h
      · obtain ⟨x, hx, hp⟩ := List.any_eq_true.1 h
        exact .inl (List.any_eq_true.2 ⟨x, hm x hx, hp⟩)
    · rintro (h | h)
      · exact .inl h
      · exact .inr (.inl h)
  by_cases hb : asked.any (fun s => decide (ix xs s < 0)) = true ∨ known.any (fun s => decide (ix xs s < 0)) = true
  · rw [if_pos hb, if_pos (this.2 hb)]
  · rw [if_neg hb, if_neg (fun h => hb (this.1 h))]
theorem sL_more (hm : ∀ x ∈ more, x ∈ asked) {x : Int} (h : x ∈ sL xs xb base ch asked (known ++ more)) : x ∈ sL xs xb base ch asked known := by
  unfold sL at h ⊢
  rw [sE_more hm] at h
  split at h
  · rename_i h0
    rw [if_pos h0]
    obtain ⟨h1, h2, h3⟩ := (shr_iff _ (Nat.le_refl _) x).1 h
    exact (shr_iff _ (Nat.le_refl _) x).2 ⟨h1, h2, fun hk => h3 (List.mem_append_left _ hk)⟩
  · cases h
end
end Go.Fw.Gp
end
